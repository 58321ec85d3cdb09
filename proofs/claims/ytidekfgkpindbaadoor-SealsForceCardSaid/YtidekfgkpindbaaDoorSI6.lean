/-
  Texts behind the statement, part 6.
-/
import Derived.Test.YtidekfgkpindbaaDoorSI5
import Derived.Test.YtidekfgkpindbaaDoorSG1
import Derived.Test.YtidekfgkpindbaaDoorRows
import Derived.WalkKit
import Derived.Lib.Hide
import Derived.WalkSpells
import Derived.WalkLawsBesides
import Derived.RangeFuncNested
import Derived.RangeFuncBound
import Derived.RangeFuncCalls
import Derived.RangeFuncLeaves
import Derived.RangeFuncBox
import Derived.OwnWalkIn
import Derived.TacticsInMore
import Derived.LoopNIn
import Derived.LoopIn
import Derived.Lib.RabinKarpLaws
import Derived.Shelf.Abstract
import Derived.Shelf.Small.Strs
import Derived.Shelf.Strings.Search1
import Derived.Shelf.Bytes.SlSearch0
import Derived.Ground.SlbNamesProg
import Derived.Shelf.Bytes.SlJoin
import Derived.Shelf.Bytes.SlEqualAll
import Derived.Shelf.Bytes.Small
import Derived.Test.YtidekfgkpindbaaDoorProg
set_option linter.unusedSimpArgs false
set_option linter.unusedVariables false
namespace Go.Proofs.YtidekfgkpindbaaDoor
open Go Go.RowKit
def KS(A:Option Addr)(n c:Nat)(l:List W8)(v:Value)(z:Nat)(xs:List Value):Prop:=(v=.slice A n c∧z=1∧xs=l.flatMap c8)∨(v=.slice (some ⟨0,0,none⟩) 1 1∧z=8∧xs=startS.cells)∨(v=.slice (some ⟨1,0,none⟩) 64 64∧z=1∧xs=numbersK.flatMap c32)
def Laid(w:World):Prop:=Rd w 8 (some ⟨0,0,none⟩) 1 startS.cells∧Rd w 1 (some ⟨1,0,none⟩) 64 (numbersK.flatMap c32)
set_option maxRecDepth 100000 in
set_option maxHeartbeats 4000000 in
theorem sum_any(l:List W8)(hn60:l.length<2 ^ 60)(A:Option Addr)(n c:Nat)(w:World)(hr:Rd w 1 A n (l.flatMap c8))(hc:n≤c)(hlaid:Laid w):Calls Tryd.prog 65 #[.slice A n c] w fun e w'=>e=.returned (.agg ((sumE l).flatMap c8).toArray)∧Below w.heap.size w w':=by
 have hln:l.length=n:=by have:=hr.1;rw [SX.flat_len c8_len]at this;omega
 refine SX.calls_of_run (C:=cxS (KS A n c l) (KS A n c l)) (G:=⟨fun _=>true,[⟨65,4,((.s 5,.ext 1)::(List.range 8).map fun j=>(.c 1 j,.one))⟩],0,100⟩) (args:=args_sum) (sh:=[.any]) (ρ:=[.slice A n c]) 100000 tree_sum (cxS_ok _ _) Tryd.func65 rfl (cast (by kernel_rfl) (run_sum (KS A n c l) (KS A n c l))) (by kernel_rfl) (by kernel_rfl) (by kernel_rfl) ?_ ?_
 ·rintro W hW v z xs (⟨rfl,rfl,rfl⟩|⟨rfl,rfl,rfl⟩|⟨rfl,rfl,rfl⟩)
  ·exact⟨hr.same0 hW,hc⟩
  ·exact⟨hlaid.1.same0 hW,Nat.le_refl _⟩
  exact⟨hlaid.2.same0 hW,Nat.le_refl _⟩
 have hL:LaidK (cxS (KS A n c l) (KS A n c l)).K:=⟨.inr (.inl ⟨rfl,rfl,rfl⟩),.inr (.inr ⟨rfl,rfl,rfl⟩)⟩
 have hPr:(cxS (KS A n c l) (KS A n c l)).P=Tryd.prog:=rfl
 have hin:(KS A n c l) (.slice A n c) 1 (l.flatMap c8):=.inl ⟨rfl,rfl,rfl⟩
 unfold tree_sum
 refine SX.E (.agg startS.cells.toArray) (fun α=>SX.extElems (f:=S8.cells) (l:=[startS]) (A:=some ⟨0,0,none⟩) (n:=1) (c:=1) (j:=0) (z:=startS) (fun _=>rfl) (fun _=>rfl) rfl (by kernel_rfl) (by omega) (cast (by kernel_rfl) hL.1) rfl) ?_
 refine SX.E (.agg (l.flatMap c8).toArray) (fun α=>⟨l.flatMap c8,⟨A,n,c,rfl,hc⟩,hin,hin,rfl⟩) ?_
 refine SX.VC_loop (fun xs=>∃ (s:S8) (r:List W8),xs=.agg (r.flatMap c8).toArray::s.cells∧absAll s r=absAll startS l) (fun xs=>match xs with|.agg cs::_=>cs.toList.length|_=>0) (fun α=>⟨startS,l,Eq.trans (b:=(.agg (SX.cellsV (.agg (l.flatMap c8).toArray)++[]).toArray)::startS.cells) (by kernel_rfl) (by rw [List.append_nil];rfl),rfl⟩) ?_
 rintro xs-⟨s,r,rfl,hI⟩
 have hcat:∀ (α:Nat→SX.AV) (t:List Value),SX.cellsV ((SX.V.cat [.x 3 []]).den ([.slice A n c]++[.agg startS.cells.toArray]++[.agg (l.flatMap c8).toArray]++(.agg (r.flatMap c8).toArray::s.cells)++t) α)=r.flatMap c8:=fun α t=>SX.cat1 (by kernel_rfl)
 refine SX.E (.int .i64 (r.length:Int)) (fun α=>row_len8 (SX.cat1 (j:=3) (by kernel_rfl))) ?_
 refine SX.E (.bool (decide (64≤r.length))) (fun α=>cast (by kernel_rfl) (geq_nat r.length 64)) ?_
 refine SX.B (decide (64≤r.length)) (fun h64=>?_) (fun h64=>?_)
 ·have h64:64≤r.length:=by simpa using h64
  have ht:(r.take 64).length=64:=by rw [List.length_take];omega
  refine SX.E (.agg ((r.take 64).flatMap c8).toArray) (fun α=>slcx_take (k:=64) (SX.cat1 (j:=3) (by kernel_rfl)) (by kernel_rfl) h64) ?_
  refine SX.E (.agg (absorbE s (r.take 64)).cells.toArray) (fun α=>absorb_row hPr hL (l:=r.take 64) (s:=s) (by kernel_rfl) ht (by kernel_rfl)) ?_
  refine SX.E (.agg ((r.drop 64).flatMap c8).toArray) (fun α=>slcx_drop (k:=64) (SX.cat1 (j:=3) (by kernel_rfl)) (by kernel_rfl) h64) ?_
  exact VC_again2 rfl (fun α=>⟨absorbE s (r.take 64),r.drop 64,Eq.trans (b:=(.agg (SX.cellsV (.agg ((r.drop 64).flatMap c8).toArray)++[]).toArray)::(absorbE s (r.take 64)).cells) (by kernel_rfl) (by rw [List.append_nil];rfl),by rw [← hI,absAll_ge h64]⟩) (fun α=>cast (by kernel_rfl) (show(((r.drop 64).flatMap c8)++[]).length<(r.flatMap c8).length by rw [List.append_nil,SX.flat_len c8_len,SX.flat_len c8_len,List.length_drop];omega))
 have h64:¬ 64≤r.length:=by simpa using h64
 rw [absAll_lt h64]at hI
 have e1:(absAll startS l).1=s:=by rw [← hI]
 have e2:(absAll startS l).2=r:=by rw [← hI]
 have hp:(r++(List.replicate 64 (0:W8)).drop r.length).length=64:=by simp;omega
 obtain⟨g1,hg1⟩:=list64b _ hp
 refine SX.E (.tuple #[.int .i64 (r.length:Int),.agg (((List.range 64).map g1).flatMap c8).toArray]) (fun α=>by rw [← hg1];exact cpyx8 (l:=r) (z:=List.replicate 64 0) (by kernel_rfl) (SX.cat1 (j:=3) (by kernel_rfl)) (by omega)) ?_
 refine SX.E (.int .i64 (r.length:Int)) (fun α=>row_len8 (SX.cat1 (j:=3) (by kernel_rfl))) ?_
 refine SX.E (.bool true) (fun α=>SX.extBnd (A:=some ⟨(α 12).b,0,none⟩) (n:=64) (c:=128) (j:=r.length) (fun _=>rfl) rfl (by kernel_rfl) (by omega)) ?_
 have hm:(((List.range 64).map g1).set r.length 128:List W8)=marked r:=by rw [← hg1];unfold marked;rw [List.drop_replicate]
 have hml:(marked r).length=64:=by rw [← hm];simp
 obtain⟨g2,hg2⟩:=list64b _ hml
 refine SX.VC_df (.agg (((List.range 64).map g2).flatMap c8).toArray) (fun α=>by rw [← hg2,← hm];exact rset8 (u:=(List.range 64).map g1) (k:=r.length) (y:=128) (Eq.trans (b:=SX.cellsV (.agg (((List.range 64).map g1).flatMap c8).toArray)++[]) (by kernel_rfl) (List.append_nil _)) (by kernel_rfl) (by kernel_rfl) (by simp;omega)) (fit8 _ (by simp)) ?_
 refine SX.E (.int .i64 (r.length:Int)) (fun α=>row_len8 (SX.cat1 (j:=3) (by kernel_rfl))) ?_
 refine SX.E (.bool (decide (55<r.length))) (fun α=>cast (by kernel_rfl) (gtr_nat r.length 55)) ?_
 refine SX.B (decide (55<r.length)) (fun h55=>?_) (fun h55=>?_)
 ·have h55:55<r.length:=by simpa using h55
  refine SX.D (.int .i64 (n:Int)) ?_
  refine SX.E (.int .u64 (n:Int)) (fun α=>cast (by kernel_rfl) (u_conv n .i64 (by omega))) ?_
  refine SX.E (.int .u64 ((8*n:Nat):Int)) (fun α=>cast (by kernel_rfl) (u_mul8 n (by omega))) ?_
  refine SX.E (.int .u64 ((8*n / 2 ^ 0:Nat):Int)) (fun α=>cast (by kernel_rfl) (u_shr (8*n) 0 (by omega))) ?_
  refine SX.E (w8 (byteAt (8*n) 0)) (fun α=>cast (by kernel_rfl) (w_byte (8*n) 0)) ?_
  refine SX.E (.int .u64 ((8*n / 2 ^ 8:Nat):Int)) (fun α=>cast (by kernel_rfl) (u_shr (8*n) 8 (by omega))) ?_
  refine SX.E (w8 (byteAt (8*n) 8)) (fun α=>cast (by kernel_rfl) (w_byte (8*n) 8)) ?_
  refine SX.E (.int .u64 ((8*n / 2 ^ 16:Nat):Int)) (fun α=>cast (by kernel_rfl) (u_shr (8*n) 16 (by omega))) ?_
  refine SX.E (w8 (byteAt (8*n) 16)) (fun α=>cast (by kernel_rfl) (w_byte (8*n) 16)) ?_
  refine SX.E (.int .u64 ((8*n / 2 ^ 24:Nat):Int)) (fun α=>cast (by kernel_rfl) (u_shr (8*n) 24 (by omega))) ?_
  refine SX.E (w8 (byteAt (8*n) 24)) (fun α=>cast (by kernel_rfl) (w_byte (8*n) 24)) ?_
  refine SX.E (.int .u64 ((8*n / 2 ^ 32:Nat):Int)) (fun α=>cast (by kernel_rfl) (u_shr (8*n) 32 (by omega))) ?_
  refine SX.E (w8 (byteAt (8*n) 32)) (fun α=>cast (by kernel_rfl) (w_byte (8*n) 32)) ?_
  refine SX.E (.int .u64 ((8*n / 2 ^ 40:Nat):Int)) (fun α=>cast (by kernel_rfl) (u_shr (8*n) 40 (by omega))) ?_
  refine SX.E (w8 (byteAt (8*n) 40)) (fun α=>cast (by kernel_rfl) (w_byte (8*n) 40)) ?_
  refine SX.E (.int .u64 ((8*n / 2 ^ 48:Nat):Int)) (fun α=>cast (by kernel_rfl) (u_shr (8*n) 48 (by omega))) ?_
  refine SX.E (w8 (byteAt (8*n) 48)) (fun α=>cast (by kernel_rfl) (w_byte (8*n) 48)) ?_
  refine SX.E (.int .u64 ((8*n / 2 ^ 56:Nat):Int)) (fun α=>cast (by kernel_rfl) (u_shr (8*n) 56 (by omega))) ?_
  refine SX.E (w8 (byteAt (8*n) 56)) (fun α=>cast (by kernel_rfl) (w_byte (8*n) 56)) ?_
  refine SX.E (.agg (absorbE s (marked r)).cells.toArray) (fun α=>absorb_own hPr hL (l:=marked r) (s:=s) (by rw [hg2];kernel_rfl) hml (by kernel_rfl)) ?_
  generalize hs1:absorbE s (marked r)=s1
  refine SX.E (.agg (absorbE s1 (List.replicate 56 0++be64 (8*n))).cells.toArray) (fun α=>absorb_own hPr hL (l:=List.replicate 56 0++be64 (8*n)) (s:=s1) (by kernel_rfl) (by kernel_rfl) (by kernel_rfl)) ?_
  generalize hs2:absorbE s1 (List.replicate 56 0++be64 (8*n))=s2
  refine SX.E (.int .u64 (s2.a.toNat:Int)) (fun α=>cast (by kernel_rfl) (u_conv32 s2.a)) ?_
  refine SX.E (.int .u64 ((s2.a.toNat / 2 ^ 0:Nat):Int)) (fun α=>cast (by kernel_rfl) (u_shr s2.a.toNat 0 (by omega))) ?_
  refine SX.E (w8 (byteAt s2.a.toNat 0)) (fun α=>cast (by kernel_rfl) (w_byte s2.a.toNat 0)) ?_
  refine SX.E (.int .u64 ((s2.a.toNat / 2 ^ 8:Nat):Int)) (fun α=>cast (by kernel_rfl) (u_shr s2.a.toNat 8 (by omega))) ?_
  refine SX.E (w8 (byteAt s2.a.toNat 8)) (fun α=>cast (by kernel_rfl) (w_byte s2.a.toNat 8)) ?_
  refine SX.E (.int .u64 ((s2.a.toNat / 2 ^ 16:Nat):Int)) (fun α=>cast (by kernel_rfl) (u_shr s2.a.toNat 16 (by omega))) ?_
  refine SX.E (w8 (byteAt s2.a.toNat 16)) (fun α=>cast (by kernel_rfl) (w_byte s2.a.toNat 16)) ?_
  refine SX.E (.int .u64 ((s2.a.toNat / 2 ^ 24:Nat):Int)) (fun α=>cast (by kernel_rfl) (u_shr s2.a.toNat 24 (by omega))) ?_
  refine SX.E (w8 (byteAt s2.a.toNat 24)) (fun α=>cast (by kernel_rfl) (w_byte s2.a.toNat 24)) ?_
  refine SX.E (.int .u64 (s2.b.toNat:Int)) (fun α=>cast (by kernel_rfl) (u_conv32 s2.b)) ?_
  refine SX.E (.int .u64 ((s2.b.toNat / 2 ^ 0:Nat):Int)) (fun α=>cast (by kernel_rfl) (u_shr s2.b.toNat 0 (by omega))) ?_
  refine SX.E (w8 (byteAt s2.b.toNat 0)) (fun α=>cast (by kernel_rfl) (w_byte s2.b.toNat 0)) ?_
  refine SX.E (.int .u64 ((s2.b.toNat / 2 ^ 8:Nat):Int)) (fun α=>cast (by kernel_rfl) (u_shr s2.b.toNat 8 (by omega))) ?_
  refine SX.E (w8 (byteAt s2.b.toNat 8)) (fun α=>cast (by kernel_rfl) (w_byte s2.b.toNat 8)) ?_
  refine SX.E (.int .u64 ((s2.b.toNat / 2 ^ 16:Nat):Int)) (fun α=>cast (by kernel_rfl) (u_shr s2.b.toNat 16 (by omega))) ?_
  refine SX.E (w8 (byteAt s2.b.toNat 16)) (fun α=>cast (by kernel_rfl) (w_byte s2.b.toNat 16)) ?_
  refine SX.E (.int .u64 ((s2.b.toNat / 2 ^ 24:Nat):Int)) (fun α=>cast (by kernel_rfl) (u_shr s2.b.toNat 24 (by omega))) ?_
  refine SX.E (w8 (byteAt s2.b.toNat 24)) (fun α=>cast (by kernel_rfl) (w_byte s2.b.toNat 24)) ?_
  refine SX.E (.int .u64 (s2.c.toNat:Int)) (fun α=>cast (by kernel_rfl) (u_conv32 s2.c)) ?_
  refine SX.E (.int .u64 ((s2.c.toNat / 2 ^ 0:Nat):Int)) (fun α=>cast (by kernel_rfl) (u_shr s2.c.toNat 0 (by omega))) ?_
  refine SX.E (w8 (byteAt s2.c.toNat 0)) (fun α=>cast (by kernel_rfl) (w_byte s2.c.toNat 0)) ?_
  refine SX.E (.int .u64 ((s2.c.toNat / 2 ^ 8:Nat):Int)) (fun α=>cast (by kernel_rfl) (u_shr s2.c.toNat 8 (by omega))) ?_
  refine SX.E (w8 (byteAt s2.c.toNat 8)) (fun α=>cast (by kernel_rfl) (w_byte s2.c.toNat 8)) ?_
  refine SX.E (.int .u64 ((s2.c.toNat / 2 ^ 16:Nat):Int)) (fun α=>cast (by kernel_rfl) (u_shr s2.c.toNat 16 (by omega))) ?_
  refine SX.E (w8 (byteAt s2.c.toNat 16)) (fun α=>cast (by kernel_rfl) (w_byte s2.c.toNat 16)) ?_
  refine SX.E (.int .u64 ((s2.c.toNat / 2 ^ 24:Nat):Int)) (fun α=>cast (by kernel_rfl) (u_shr s2.c.toNat 24 (by omega))) ?_
  refine SX.E (w8 (byteAt s2.c.toNat 24)) (fun α=>cast (by kernel_rfl) (w_byte s2.c.toNat 24)) ?_
  refine SX.E (.int .u64 (s2.d.toNat:Int)) (fun α=>cast (by kernel_rfl) (u_conv32 s2.d)) ?_
  refine SX.E (.int .u64 ((s2.d.toNat / 2 ^ 0:Nat):Int)) (fun α=>cast (by kernel_rfl) (u_shr s2.d.toNat 0 (by omega))) ?_
  refine SX.E (w8 (byteAt s2.d.toNat 0)) (fun α=>cast (by kernel_rfl) (w_byte s2.d.toNat 0)) ?_
  refine SX.E (.int .u64 ((s2.d.toNat / 2 ^ 8:Nat):Int)) (fun α=>cast (by kernel_rfl) (u_shr s2.d.toNat 8 (by omega))) ?_
  refine SX.E (w8 (byteAt s2.d.toNat 8)) (fun α=>cast (by kernel_rfl) (w_byte s2.d.toNat 8)) ?_
  refine SX.E (.int .u64 ((s2.d.toNat / 2 ^ 16:Nat):Int)) (fun α=>cast (by kernel_rfl) (u_shr s2.d.toNat 16 (by omega))) ?_
  refine SX.E (w8 (byteAt s2.d.toNat 16)) (fun α=>cast (by kernel_rfl) (w_byte s2.d.toNat 16)) ?_
  refine SX.E (.int .u64 ((s2.d.toNat / 2 ^ 24:Nat):Int)) (fun α=>cast (by kernel_rfl) (u_shr s2.d.toNat 24 (by omega))) ?_
  refine SX.E (w8 (byteAt s2.d.toNat 24)) (fun α=>cast (by kernel_rfl) (w_byte s2.d.toNat 24)) ?_
  refine SX.E (.int .u64 (s2.e.toNat:Int)) (fun α=>cast (by kernel_rfl) (u_conv32 s2.e)) ?_
  refine SX.E (.int .u64 ((s2.e.toNat / 2 ^ 0:Nat):Int)) (fun α=>cast (by kernel_rfl) (u_shr s2.e.toNat 0 (by omega))) ?_
  refine SX.E (w8 (byteAt s2.e.toNat 0)) (fun α=>cast (by kernel_rfl) (w_byte s2.e.toNat 0)) ?_
  refine SX.E (.int .u64 ((s2.e.toNat / 2 ^ 8:Nat):Int)) (fun α=>cast (by kernel_rfl) (u_shr s2.e.toNat 8 (by omega))) ?_
  refine SX.E (w8 (byteAt s2.e.toNat 8)) (fun α=>cast (by kernel_rfl) (w_byte s2.e.toNat 8)) ?_
  refine SX.E (.int .u64 ((s2.e.toNat / 2 ^ 16:Nat):Int)) (fun α=>cast (by kernel_rfl) (u_shr s2.e.toNat 16 (by omega))) ?_
  refine SX.E (w8 (byteAt s2.e.toNat 16)) (fun α=>cast (by kernel_rfl) (w_byte s2.e.toNat 16)) ?_
  refine SX.E (.int .u64 ((s2.e.toNat / 2 ^ 24:Nat):Int)) (fun α=>cast (by kernel_rfl) (u_shr s2.e.toNat 24 (by omega))) ?_
  refine SX.E (w8 (byteAt s2.e.toNat 24)) (fun α=>cast (by kernel_rfl) (w_byte s2.e.toNat 24)) ?_
  refine SX.E (.int .u64 (s2.f.toNat:Int)) (fun α=>cast (by kernel_rfl) (u_conv32 s2.f)) ?_
  refine SX.E (.int .u64 ((s2.f.toNat / 2 ^ 0:Nat):Int)) (fun α=>cast (by kernel_rfl) (u_shr s2.f.toNat 0 (by omega))) ?_
  refine SX.E (w8 (byteAt s2.f.toNat 0)) (fun α=>cast (by kernel_rfl) (w_byte s2.f.toNat 0)) ?_
  refine SX.E (.int .u64 ((s2.f.toNat / 2 ^ 8:Nat):Int)) (fun α=>cast (by kernel_rfl) (u_shr s2.f.toNat 8 (by omega))) ?_
  refine SX.E (w8 (byteAt s2.f.toNat 8)) (fun α=>cast (by kernel_rfl) (w_byte s2.f.toNat 8)) ?_
  refine SX.E (.int .u64 ((s2.f.toNat / 2 ^ 16:Nat):Int)) (fun α=>cast (by kernel_rfl) (u_shr s2.f.toNat 16 (by omega))) ?_
  refine SX.E (w8 (byteAt s2.f.toNat 16)) (fun α=>cast (by kernel_rfl) (w_byte s2.f.toNat 16)) ?_
  refine SX.E (.int .u64 ((s2.f.toNat / 2 ^ 24:Nat):Int)) (fun α=>cast (by kernel_rfl) (u_shr s2.f.toNat 24 (by omega))) ?_
  refine SX.E (w8 (byteAt s2.f.toNat 24)) (fun α=>cast (by kernel_rfl) (w_byte s2.f.toNat 24)) ?_
  refine SX.E (.int .u64 (s2.g.toNat:Int)) (fun α=>cast (by kernel_rfl) (u_conv32 s2.g)) ?_
  refine SX.E (.int .u64 ((s2.g.toNat / 2 ^ 0:Nat):Int)) (fun α=>cast (by kernel_rfl) (u_shr s2.g.toNat 0 (by omega))) ?_
  refine SX.E (w8 (byteAt s2.g.toNat 0)) (fun α=>cast (by kernel_rfl) (w_byte s2.g.toNat 0)) ?_
  refine SX.E (.int .u64 ((s2.g.toNat / 2 ^ 8:Nat):Int)) (fun α=>cast (by kernel_rfl) (u_shr s2.g.toNat 8 (by omega))) ?_
  refine SX.E (w8 (byteAt s2.g.toNat 8)) (fun α=>cast (by kernel_rfl) (w_byte s2.g.toNat 8)) ?_
  refine SX.E (.int .u64 ((s2.g.toNat / 2 ^ 16:Nat):Int)) (fun α=>cast (by kernel_rfl) (u_shr s2.g.toNat 16 (by omega))) ?_
  refine SX.E (w8 (byteAt s2.g.toNat 16)) (fun α=>cast (by kernel_rfl) (w_byte s2.g.toNat 16)) ?_
  refine SX.E (.int .u64 ((s2.g.toNat / 2 ^ 24:Nat):Int)) (fun α=>cast (by kernel_rfl) (u_shr s2.g.toNat 24 (by omega))) ?_
  refine SX.E (w8 (byteAt s2.g.toNat 24)) (fun α=>cast (by kernel_rfl) (w_byte s2.g.toNat 24)) ?_
  refine SX.E (.int .u64 (s2.h.toNat:Int)) (fun α=>cast (by kernel_rfl) (u_conv32 s2.h)) ?_
  refine SX.E (.int .u64 ((s2.h.toNat / 2 ^ 0:Nat):Int)) (fun α=>cast (by kernel_rfl) (u_shr s2.h.toNat 0 (by omega))) ?_
  refine SX.E (w8 (byteAt s2.h.toNat 0)) (fun α=>cast (by kernel_rfl) (w_byte s2.h.toNat 0)) ?_
  refine SX.E (.int .u64 ((s2.h.toNat / 2 ^ 8:Nat):Int)) (fun α=>cast (by kernel_rfl) (u_shr s2.h.toNat 8 (by omega))) ?_
  refine SX.E (w8 (byteAt s2.h.toNat 8)) (fun α=>cast (by kernel_rfl) (w_byte s2.h.toNat 8)) ?_
  refine SX.E (.int .u64 ((s2.h.toNat / 2 ^ 16:Nat):Int)) (fun α=>cast (by kernel_rfl) (u_shr s2.h.toNat 16 (by omega))) ?_
  refine SX.E (w8 (byteAt s2.h.toNat 16)) (fun α=>cast (by kernel_rfl) (w_byte s2.h.toNat 16)) ?_
  refine SX.E (.int .u64 ((s2.h.toNat / 2 ^ 24:Nat):Int)) (fun α=>cast (by kernel_rfl) (u_shr s2.h.toNat 24 (by omega))) ?_
  refine SX.E (w8 (byteAt s2.h.toNat 24)) (fun α=>cast (by kernel_rfl) (w_byte s2.h.toNat 24)) ?_
  exact SX.VC_ret fun α W _ _ hS=>SX.ret_of (x:=.agg ((outS s2).flatMap c8).toArray) hS (by kernel_rfl) (by unfold sumE endS;rw [e1,e2,hln,if_pos h55,hs1,hs2])
 have h55:¬ 55<r.length:=by simpa using h55
 refine SX.D (.int .i64 (n:Int)) ?_
 refine SX.E (.int .u64 (n:Int)) (fun α=>cast (by kernel_rfl) (u_conv n .i64 (by omega))) ?_
 refine SX.E (.int .u64 ((8*n:Nat):Int)) (fun α=>cast (by kernel_rfl) (u_mul8 n (by omega))) ?_
 refine SX.E (.int .u64 ((8*n / 2 ^ 0:Nat):Int)) (fun α=>cast (by kernel_rfl) (u_shr (8*n) 0 (by omega))) ?_
 refine SX.E (w8 (byteAt (8*n) 0)) (fun α=>cast (by kernel_rfl) (w_byte (8*n) 0)) ?_
 refine SX.E (.int .u64 ((8*n / 2 ^ 8:Nat):Int)) (fun α=>cast (by kernel_rfl) (u_shr (8*n) 8 (by omega))) ?_
 refine SX.E (w8 (byteAt (8*n) 8)) (fun α=>cast (by kernel_rfl) (w_byte (8*n) 8)) ?_
 refine SX.E (.int .u64 ((8*n / 2 ^ 16:Nat):Int)) (fun α=>cast (by kernel_rfl) (u_shr (8*n) 16 (by omega))) ?_
 refine SX.E (w8 (byteAt (8*n) 16)) (fun α=>cast (by kernel_rfl) (w_byte (8*n) 16)) ?_
 refine SX.E (.int .u64 ((8*n / 2 ^ 24:Nat):Int)) (fun α=>cast (by kernel_rfl) (u_shr (8*n) 24 (by omega))) ?_
 refine SX.E (w8 (byteAt (8*n) 24)) (fun α=>cast (by kernel_rfl) (w_byte (8*n) 24)) ?_
 refine SX.E (.int .u64 ((8*n / 2 ^ 32:Nat):Int)) (fun α=>cast (by kernel_rfl) (u_shr (8*n) 32 (by omega))) ?_
 refine SX.E (w8 (byteAt (8*n) 32)) (fun α=>cast (by kernel_rfl) (w_byte (8*n) 32)) ?_
 refine SX.E (.int .u64 ((8*n / 2 ^ 40:Nat):Int)) (fun α=>cast (by kernel_rfl) (u_shr (8*n) 40 (by omega))) ?_
 refine SX.E (w8 (byteAt (8*n) 40)) (fun α=>cast (by kernel_rfl) (w_byte (8*n) 40)) ?_
 refine SX.E (.int .u64 ((8*n / 2 ^ 48:Nat):Int)) (fun α=>cast (by kernel_rfl) (u_shr (8*n) 48 (by omega))) ?_
 refine SX.E (w8 (byteAt (8*n) 48)) (fun α=>cast (by kernel_rfl) (w_byte (8*n) 48)) ?_
 refine SX.E (.int .u64 ((8*n / 2 ^ 56:Nat):Int)) (fun α=>cast (by kernel_rfl) (u_shr (8*n) 56 (by omega))) ?_
 refine SX.E (w8 (byteAt (8*n) 56)) (fun α=>cast (by kernel_rfl) (w_byte (8*n) 56)) ?_
 refine SX.E (.agg (absorbE s ((marked r).take 56++be64 (8*n))).cells.toArray) (fun α=>absorb_own hPr hL (l:=(marked r).take 56++be64 (8*n)) (s:=s) (by rw [hg2];kernel_rfl) (by rw [List.length_append,List.length_take,hml];rfl) (by kernel_rfl)) ?_
 generalize hs2:absorbE s ((marked r).take 56++be64 (8*n))=s2
 refine SX.E (.int .u64 (s2.a.toNat:Int)) (fun α=>cast (by kernel_rfl) (u_conv32 s2.a)) ?_
 refine SX.E (.int .u64 ((s2.a.toNat / 2 ^ 0:Nat):Int)) (fun α=>cast (by kernel_rfl) (u_shr s2.a.toNat 0 (by omega))) ?_
 refine SX.E (w8 (byteAt s2.a.toNat 0)) (fun α=>cast (by kernel_rfl) (w_byte s2.a.toNat 0)) ?_
 refine SX.E (.int .u64 ((s2.a.toNat / 2 ^ 8:Nat):Int)) (fun α=>cast (by kernel_rfl) (u_shr s2.a.toNat 8 (by omega))) ?_
 refine SX.E (w8 (byteAt s2.a.toNat 8)) (fun α=>cast (by kernel_rfl) (w_byte s2.a.toNat 8)) ?_
 refine SX.E (.int .u64 ((s2.a.toNat / 2 ^ 16:Nat):Int)) (fun α=>cast (by kernel_rfl) (u_shr s2.a.toNat 16 (by omega))) ?_
 refine SX.E (w8 (byteAt s2.a.toNat 16)) (fun α=>cast (by kernel_rfl) (w_byte s2.a.toNat 16)) ?_
 refine SX.E (.int .u64 ((s2.a.toNat / 2 ^ 24:Nat):Int)) (fun α=>cast (by kernel_rfl) (u_shr s2.a.toNat 24 (by omega))) ?_
 refine SX.E (w8 (byteAt s2.a.toNat 24)) (fun α=>cast (by kernel_rfl) (w_byte s2.a.toNat 24)) ?_
 refine SX.E (.int .u64 (s2.b.toNat:Int)) (fun α=>cast (by kernel_rfl) (u_conv32 s2.b)) ?_
 refine SX.E (.int .u64 ((s2.b.toNat / 2 ^ 0:Nat):Int)) (fun α=>cast (by kernel_rfl) (u_shr s2.b.toNat 0 (by omega))) ?_
 refine SX.E (w8 (byteAt s2.b.toNat 0)) (fun α=>cast (by kernel_rfl) (w_byte s2.b.toNat 0)) ?_
 refine SX.E (.int .u64 ((s2.b.toNat / 2 ^ 8:Nat):Int)) (fun α=>cast (by kernel_rfl) (u_shr s2.b.toNat 8 (by omega))) ?_
 refine SX.E (w8 (byteAt s2.b.toNat 8)) (fun α=>cast (by kernel_rfl) (w_byte s2.b.toNat 8)) ?_
 refine SX.E (.int .u64 ((s2.b.toNat / 2 ^ 16:Nat):Int)) (fun α=>cast (by kernel_rfl) (u_shr s2.b.toNat 16 (by omega))) ?_
 refine SX.E (w8 (byteAt s2.b.toNat 16)) (fun α=>cast (by kernel_rfl) (w_byte s2.b.toNat 16)) ?_
 refine SX.E (.int .u64 ((s2.b.toNat / 2 ^ 24:Nat):Int)) (fun α=>cast (by kernel_rfl) (u_shr s2.b.toNat 24 (by omega))) ?_
 refine SX.E (w8 (byteAt s2.b.toNat 24)) (fun α=>cast (by kernel_rfl) (w_byte s2.b.toNat 24)) ?_
 refine SX.E (.int .u64 (s2.c.toNat:Int)) (fun α=>cast (by kernel_rfl) (u_conv32 s2.c)) ?_
 refine SX.E (.int .u64 ((s2.c.toNat / 2 ^ 0:Nat):Int)) (fun α=>cast (by kernel_rfl) (u_shr s2.c.toNat 0 (by omega))) ?_
 refine SX.E (w8 (byteAt s2.c.toNat 0)) (fun α=>cast (by kernel_rfl) (w_byte s2.c.toNat 0)) ?_
 refine SX.E (.int .u64 ((s2.c.toNat / 2 ^ 8:Nat):Int)) (fun α=>cast (by kernel_rfl) (u_shr s2.c.toNat 8 (by omega))) ?_
 refine SX.E (w8 (byteAt s2.c.toNat 8)) (fun α=>cast (by kernel_rfl) (w_byte s2.c.toNat 8)) ?_
 refine SX.E (.int .u64 ((s2.c.toNat / 2 ^ 16:Nat):Int)) (fun α=>cast (by kernel_rfl) (u_shr s2.c.toNat 16 (by omega))) ?_
 refine SX.E (w8 (byteAt s2.c.toNat 16)) (fun α=>cast (by kernel_rfl) (w_byte s2.c.toNat 16)) ?_
 refine SX.E (.int .u64 ((s2.c.toNat / 2 ^ 24:Nat):Int)) (fun α=>cast (by kernel_rfl) (u_shr s2.c.toNat 24 (by omega))) ?_
 refine SX.E (w8 (byteAt s2.c.toNat 24)) (fun α=>cast (by kernel_rfl) (w_byte s2.c.toNat 24)) ?_
 refine SX.E (.int .u64 (s2.d.toNat:Int)) (fun α=>cast (by kernel_rfl) (u_conv32 s2.d)) ?_
 refine SX.E (.int .u64 ((s2.d.toNat / 2 ^ 0:Nat):Int)) (fun α=>cast (by kernel_rfl) (u_shr s2.d.toNat 0 (by omega))) ?_
 refine SX.E (w8 (byteAt s2.d.toNat 0)) (fun α=>cast (by kernel_rfl) (w_byte s2.d.toNat 0)) ?_
 refine SX.E (.int .u64 ((s2.d.toNat / 2 ^ 8:Nat):Int)) (fun α=>cast (by kernel_rfl) (u_shr s2.d.toNat 8 (by omega))) ?_
 refine SX.E (w8 (byteAt s2.d.toNat 8)) (fun α=>cast (by kernel_rfl) (w_byte s2.d.toNat 8)) ?_
 refine SX.E (.int .u64 ((s2.d.toNat / 2 ^ 16:Nat):Int)) (fun α=>cast (by kernel_rfl) (u_shr s2.d.toNat 16 (by omega))) ?_
 refine SX.E (w8 (byteAt s2.d.toNat 16)) (fun α=>cast (by kernel_rfl) (w_byte s2.d.toNat 16)) ?_
 refine SX.E (.int .u64 ((s2.d.toNat / 2 ^ 24:Nat):Int)) (fun α=>cast (by kernel_rfl) (u_shr s2.d.toNat 24 (by omega))) ?_
 refine SX.E (w8 (byteAt s2.d.toNat 24)) (fun α=>cast (by kernel_rfl) (w_byte s2.d.toNat 24)) ?_
 refine SX.E (.int .u64 (s2.e.toNat:Int)) (fun α=>cast (by kernel_rfl) (u_conv32 s2.e)) ?_
 refine SX.E (.int .u64 ((s2.e.toNat / 2 ^ 0:Nat):Int)) (fun α=>cast (by kernel_rfl) (u_shr s2.e.toNat 0 (by omega))) ?_
 refine SX.E (w8 (byteAt s2.e.toNat 0)) (fun α=>cast (by kernel_rfl) (w_byte s2.e.toNat 0)) ?_
 refine SX.E (.int .u64 ((s2.e.toNat / 2 ^ 8:Nat):Int)) (fun α=>cast (by kernel_rfl) (u_shr s2.e.toNat 8 (by omega))) ?_
 refine SX.E (w8 (byteAt s2.e.toNat 8)) (fun α=>cast (by kernel_rfl) (w_byte s2.e.toNat 8)) ?_
 refine SX.E (.int .u64 ((s2.e.toNat / 2 ^ 16:Nat):Int)) (fun α=>cast (by kernel_rfl) (u_shr s2.e.toNat 16 (by omega))) ?_
 refine SX.E (w8 (byteAt s2.e.toNat 16)) (fun α=>cast (by kernel_rfl) (w_byte s2.e.toNat 16)) ?_
 refine SX.E (.int .u64 ((s2.e.toNat / 2 ^ 24:Nat):Int)) (fun α=>cast (by kernel_rfl) (u_shr s2.e.toNat 24 (by omega))) ?_
 refine SX.E (w8 (byteAt s2.e.toNat 24)) (fun α=>cast (by kernel_rfl) (w_byte s2.e.toNat 24)) ?_
 refine SX.E (.int .u64 (s2.f.toNat:Int)) (fun α=>cast (by kernel_rfl) (u_conv32 s2.f)) ?_
 refine SX.E (.int .u64 ((s2.f.toNat / 2 ^ 0:Nat):Int)) (fun α=>cast (by kernel_rfl) (u_shr s2.f.toNat 0 (by omega))) ?_
 refine SX.E (w8 (byteAt s2.f.toNat 0)) (fun α=>cast (by kernel_rfl) (w_byte s2.f.toNat 0)) ?_
 refine SX.E (.int .u64 ((s2.f.toNat / 2 ^ 8:Nat):Int)) (fun α=>cast (by kernel_rfl) (u_shr s2.f.toNat 8 (by omega))) ?_
 refine SX.E (w8 (byteAt s2.f.toNat 8)) (fun α=>cast (by kernel_rfl) (w_byte s2.f.toNat 8)) ?_
 refine SX.E (.int .u64 ((s2.f.toNat / 2 ^ 16:Nat):Int)) (fun α=>cast (by kernel_rfl) (u_shr s2.f.toNat 16 (by omega))) ?_
 refine SX.E (w8 (byteAt s2.f.toNat 16)) (fun α=>cast (by kernel_rfl) (w_byte s2.f.toNat 16)) ?_
 refine SX.E (.int .u64 ((s2.f.toNat / 2 ^ 24:Nat):Int)) (fun α=>cast (by kernel_rfl) (u_shr s2.f.toNat 24 (by omega))) ?_
 refine SX.E (w8 (byteAt s2.f.toNat 24)) (fun α=>cast (by kernel_rfl) (w_byte s2.f.toNat 24)) ?_
 refine SX.E (.int .u64 (s2.g.toNat:Int)) (fun α=>cast (by kernel_rfl) (u_conv32 s2.g)) ?_
 refine SX.E (.int .u64 ((s2.g.toNat / 2 ^ 0:Nat):Int)) (fun α=>cast (by kernel_rfl) (u_shr s2.g.toNat 0 (by omega))) ?_
 refine SX.E (w8 (byteAt s2.g.toNat 0)) (fun α=>cast (by kernel_rfl) (w_byte s2.g.toNat 0)) ?_
 refine SX.E (.int .u64 ((s2.g.toNat / 2 ^ 8:Nat):Int)) (fun α=>cast (by kernel_rfl) (u_shr s2.g.toNat 8 (by omega))) ?_
 refine SX.E (w8 (byteAt s2.g.toNat 8)) (fun α=>cast (by kernel_rfl) (w_byte s2.g.toNat 8)) ?_
 refine SX.E (.int .u64 ((s2.g.toNat / 2 ^ 16:Nat):Int)) (fun α=>cast (by kernel_rfl) (u_shr s2.g.toNat 16 (by omega))) ?_
 refine SX.E (w8 (byteAt s2.g.toNat 16)) (fun α=>cast (by kernel_rfl) (w_byte s2.g.toNat 16)) ?_
 refine SX.E (.int .u64 ((s2.g.toNat / 2 ^ 24:Nat):Int)) (fun α=>cast (by kernel_rfl) (u_shr s2.g.toNat 24 (by omega))) ?_
 refine SX.E (w8 (byteAt s2.g.toNat 24)) (fun α=>cast (by kernel_rfl) (w_byte s2.g.toNat 24)) ?_
 refine SX.E (.int .u64 (s2.h.toNat:Int)) (fun α=>cast (by kernel_rfl) (u_conv32 s2.h)) ?_
 refine SX.E (.int .u64 ((s2.h.toNat / 2 ^ 0:Nat):Int)) (fun α=>cast (by kernel_rfl) (u_shr s2.h.toNat 0 (by omega))) ?_
 refine SX.E (w8 (byteAt s2.h.toNat 0)) (fun α=>cast (by kernel_rfl) (w_byte s2.h.toNat 0)) ?_
 refine SX.E (.int .u64 ((s2.h.toNat / 2 ^ 8:Nat):Int)) (fun α=>cast (by kernel_rfl) (u_shr s2.h.toNat 8 (by omega))) ?_
 refine SX.E (w8 (byteAt s2.h.toNat 8)) (fun α=>cast (by kernel_rfl) (w_byte s2.h.toNat 8)) ?_
 refine SX.E (.int .u64 ((s2.h.toNat / 2 ^ 16:Nat):Int)) (fun α=>cast (by kernel_rfl) (u_shr s2.h.toNat 16 (by omega))) ?_
 refine SX.E (w8 (byteAt s2.h.toNat 16)) (fun α=>cast (by kernel_rfl) (w_byte s2.h.toNat 16)) ?_
 refine SX.E (.int .u64 ((s2.h.toNat / 2 ^ 24:Nat):Int)) (fun α=>cast (by kernel_rfl) (u_shr s2.h.toNat 24 (by omega))) ?_
 refine SX.E (w8 (byteAt s2.h.toNat 24)) (fun α=>cast (by kernel_rfl) (w_byte s2.h.toNat 24)) ?_
 exact SX.VC_ret fun α W _ _ hS=>SX.ret_of (x:=.agg ((outS s2).flatMap c8).toArray) hS (by kernel_rfl) (by unfold sumE endS;rw [e1,e2,hln,if_neg h55,hs2])
theorem listN{n:Nat}(l:List W8)(h:l.length=n):∃ g:Nat→W8,l=(List.range n).map g:=by
 refine⟨fun j=>l.getD j 0,?_⟩
 apply List.ext_getElem
 ·simp [h]
 intro j h1 h2
 simp [List.getD_eq_getElem?_getD,h1]
def SumR(K:Value→Nat→List Value→Prop)(f:FuncId)(xs:List SX.Arg)(v:Value):Prop:=f=65∧LaidK K∧∃ (u:Value) (l:List W8),xs=[⟨u,1,l.flatMap c8⟩]∧l.length<2 ^ 60∧v=.agg ((sumE l).flatMap c8).toArray
theorem laid_of{K:Value→Nat→List Value→Prop}{W:World}(h:LaidK K)(hK:∀ s sz cells,K s sz cells→SX.Arg.rd W ⟨s,sz,cells⟩):Laid W:=⟨(hK _ _ _ h.1).1,(hK _ _ _ h.2).1⟩
theorem sumR_calls{K:Value→Nat→List Value→Prop}{f:FuncId}{xs:List SX.Arg}{v:Value}{W:World}(h:SumR K f xs v)(hrd:∀ x∈xs,x.rd W)(hK:∀ s sz cells,K s sz cells→SX.Arg.rd W ⟨s,sz,cells⟩):Calls Tryd.prog f (xs.map SX.Arg.v).toArray W fun e w'=>e=.returned v∧Below W.heap.size W w':=by
 obtain⟨rfl,hL,u,l,rfl,h60,rfl⟩:=h
 obtain⟨A,n,c,rfl,hr,hc,hn⟩:=byte_arg (hrd ⟨u,1,l.flatMap c8⟩ (List.mem_singleton_self _))
 exact sum_any l h60 A n c W hr hc (laid_of hL hK)
def sb(s:ByteArray):List W8:=s.data.toList.map UInt8.toBitVec
theorem sb_len(s:ByteArray):(sb s).length=s.size:=by
 unfold sb
 rw [List.length_map]
 rfl
theorem sb_cells(s:ByteArray):(s.data.toList.map fun x=>Value.int .u8 (x.toNat:Int))=(sb s).flatMap c8:=by
 unfold sb
 generalize s.data.toList=l
 induction l with
 | nil=>rfl
 | cons a l ih=>simp only [List.map_cons,List.flatMap_cons,← ih];rfl
def tagE(t l:List W8):List W8:=sumE (sumE t++l)
theorem s2b_rel{C:SX.Cx}{ρ:List Value}{α:Nat→SX.AV}{x:SX.V}{s:ByteArray}(hx:x.den ρ α=.string s):SX.Opq.rel C ρ α .s2b [x] (.agg ((sb s).flatMap c8).toArray):=⟨s,hx,by rw [sb_cells]⟩
theorem i_add'{a b d:Nat}(h:a+b=d)(ha:d<2 ^ 62):SX.binV .add (.int .i64 (a:Int)) (.int .i64 (b:Int))=some (.int .i64 (d:Int)):=by
 simp only [SX.binV,binI,if_true]
 rw [wrap_i64 (by omega) (by omega)]
 congr 2
 omega
theorem i_sub'{a b d:Nat}(h:d+b=a)(ha:a<2 ^ 62):SX.binV .sub (.int .i64 (a:Int)) (.int .i64 (b:Int))=some (.int .i64 (d:Int)):=by
 simp only [SX.binV,binI,if_true]
 rw [wrap_i64 (by omega) (by omega)]
 congr 2
 omega
theorem lss_nat(a b:Nat):SX.binV .lss (.int .i64 (a:Int)) (.int .i64 (b:Int))=some (.bool (decide (a<b))):=by
 have e:decide ((a:Int)<(b:Int))=decide (a<b):=by simp only [decide_eq_decide];omega
 rw [← e];rfl
noncomputable def cxT(K A:Value→Nat→List Value→Prop):SX.Cx:={ P:=Tryd.prog,R:=SumR,shp:=fun f=>if f=65 then some (.ag 32)else none,K:=K,A:=A,arr:=true,trm:=true,cut:=[(6,0,true),(7,1,true)] }
theorem cxT_ok(K A:Value→Nat→List Value→Prop):(cxT K A).Ok:=SX.Cx.ok_of (fun _=>rfl) fun _ f xs v W h hrd hK=>by
 have hf:=h.1
 exact(sumR_calls h hrd hK).mono fun e w' h=>SX.plainOk (by subst hf;rfl) h
def args_tagged:List SX.V:=[.x 0 [],.x 1 []]
def tree_tagged:SX.Tree :=
(.df .s2b [(.q 0)] .any
(.df (.call 65 [(.row 1 [(.q 2)])]) [(.row 1)] (.ag 32)
(.df (.len false) [(.q 1)] .one
(.df (.bin .add 3) [(.i 32),(.q 4)] .one
(.df (.bin .lss 3) [(.q 5),(.i 0)] .one
(.br 6 [] (.bad 70 [])
(.df (.bin .lss 3) [(.q 5),(.i 0)] .one
(.br 7 [] (.bad 70 [])
(.df (.bin .sub 3) [(.q 5),(.i 0)] .one
(.df (.bin .gtr 3) [(.q 8),(.i 0)] .one
(.br 9 []
(.df (.apz (.int .u8 0) 1 1) [(.q 8)] .any
(.df (.app 1 1 (.own 1 (SX.Y 3 0 32))) [(.cat []),(.sl 2 0 32 32)] .any
(.df (.app 1 1 (.ext 1)) [(.cat [(.q 11)]),(.q 1)] .any
(.df (.call 65 [(.row 1 [(.q 11),(.q 12)])]) [(.row 7)] (.ag 32)
(.ret (.a (SX.Y 13 0 32)) [] [])))))
(.df (.app 1 1 (.own 1 (SX.Y 3 0 32))) [(.cat []),(.sl 2 0 32 32)] .any
(.df (.app 1 1 (.ext 1)) [(.cat [(.q 10)]),(.q 1)] .any
(.df (.call 65 [(.row 1 [(.q 10),(.q 11)])]) [(.row 5)] (.ag 32)
(.ret (.a (SX.Y 12 0 32)) [] [])))))))))))))))
set_option maxRecDepth 100000 in
theorem run_tagged(K A:Value→Nat→List Value→Prop):(SX.run (cxT K A) ⟨fun _=>true,[],0,100⟩ 100000 0 (SX.door 49 Tryd.f49 args_tagged [.one,.one]) [.code (Tryd.f49.body.getD .skip),.top Tryd.f49]).strip=tree_tagged:=by kernel_rfl
set_option maxRecDepth 100000 in
set_option maxHeartbeats 4000000 in
theorem tagged_any(s:ByteArray)(l:List W8)(hs:s.size<2 ^ 60)(hl:l.length<2 ^ 44)(A:Option Addr)(n c:Nat)(w:World)(hr:Rd w 1 A n (l.flatMap c8))(hc:n≤c)(hlaid:Laid w):Calls Tryd.prog 49 #[.string s,.slice A n c] w fun e w'=>e=.returned (.agg ((tagE (sb s) l).flatMap c8).toArray)∧Below w.heap.size w w':=by
 have hln:l.length=n:=by have:=hr.1;rw [SX.flat_len c8_len]at this;omega
 refine SX.calls_of_run (C:=cxT (KS A n c l) (KS A n c l)) (G:=⟨fun _=>true,[],0,100⟩) (args:=args_tagged) (sh:=[.one,.one]) (ρ:=[.string s,.slice A n c]) 100000 tree_tagged (cxT_ok _ _) Tryd.func49 rfl (cast (by kernel_rfl) (run_tagged (KS A n c l) (KS A n c l))) (by kernel_rfl) (by kernel_rfl) (by kernel_rfl) ?_ ?_
 ·rintro W hW v z xs (⟨rfl,rfl,rfl⟩|⟨rfl,rfl,rfl⟩|⟨rfl,rfl,rfl⟩)
  ·exact⟨hr.same0 hW,hc⟩
  ·exact⟨hlaid.1.same0 hW,Nat.le_refl _⟩
  exact⟨hlaid.2.same0 hW,Nat.le_refl _⟩
 have hL:LaidK (KS A n c l):=⟨.inr (.inl ⟨rfl,rfl,rfl⟩),.inr (.inr ⟨rfl,rfl,rfl⟩)⟩
 have hin:(KS A n c l) (.slice A n c) 1 (l.flatMap c8):=.inl ⟨rfl,rfl,rfl⟩
 have one:∀ a,∀ u∈c8 a,u.oneCell'=true:=fun a u hu=>by
  obtain rfl:u=w8 a:=by simpa [c8]using hu
  rfl
 unfold tree_tagged
 refine SX.E (.agg ((sb s).flatMap c8).toArray) (fun α=>s2b_rel (by kernel_rfl)) ?_
 obtain⟨g,hg⟩:=listN (n:=32) (sumE (sb s)) rfl
 refine SX.E (.agg (((List.range 32).map g).flatMap c8).toArray) (fun α=>by rw [← hg];exact⟨[⟨(α 1).h,1,(sb s).flatMap c8⟩],⟨Eq.trans (b:=⟨(α 1).h,1,(sb s).flatMap c8++[]⟩) (by rw [List.append_nil]) (by kernel_rfl),trivial⟩,⟨rfl,hL,_,_,rfl,by rw [sb_len];omega,rfl⟩,SX.noAli rfl⟩) ?_
 refine SX.D (.int .i64 (n:Int)) ?_
 refine SX.E (.int .i64 ((32+n:Nat):Int)) (fun α=>cast (by kernel_rfl) (i_add' (a:=32) (b:=n) (d:=32+n) rfl (by omega))) ?_
 refine SX.E (.bool false) (fun α=>cast (by kernel_rfl) (show SX.binV .lss (.int .i64 ((32+n:Nat):Int)) (.int .i64 ((0:Nat):Int))=some (.bool false) from by rw [lss_nat,decide_eq_false (by omega)])) ?_
 refine SX.B false (fun h=>absurd h (by simp)) (fun _=>?_)
 refine SX.E (.bool false) (fun α=>cast (by kernel_rfl) (show SX.binV .lss (.int .i64 ((32+n:Nat):Int)) (.int .i64 ((0:Nat):Int))=some (.bool false) from by rw [lss_nat,decide_eq_false (by omega)])) ?_
 refine SX.B false (fun h=>absurd h (by simp)) (fun _=>?_)
 refine SX.E (.int .i64 ((32+n:Nat):Int)) (fun α=>cast (by kernel_rfl) (i_sub' (a:=32+n) (b:=0) (d:=32+n) rfl (by omega))) ?_
 refine SX.E (.bool true) (fun α=>cast (by kernel_rfl) (show SX.binV .gtr (.int .i64 ((32+n:Nat):Int)) (.int .i64 ((0:Nat):Int))=some (.bool true) from by rw [gtr_nat,decide_eq_true (by omega)])) ?_
 refine SX.B true (fun _=>?_) (fun h=>absurd h (by simp))
 refine SX.E (.agg (madeCells (Value.int .u8 0).cells (((32+n:Nat):Int).toNat*1))) (fun α=>⟨.i64,((32+n:Nat):Int),by kernel_rfl,by omega,by omega,by omega,rfl⟩) ?_
 refine SX.E (.agg (((List.range 32).map g).flatMap c8).toArray) (fun α=>SX.app_rel c8_len one (by omega) (l1:=[]) (l2:=((List.range 32).map g)) (by kernel_rfl) (SX.src_own (by kernel_rfl)) (by simp) (by simp)) ?_
 refine SX.E (.agg (l.flatMap c8).toArray) (fun α=>SX.app_rel c8_len one (by omega) (l1:=((List.range 32).map g)) (l2:=l) (SX.cat1 (by kernel_rfl)) (SX.src_ext (cast (by kernel_rfl) hin)) (by simp;omega) (by simp;omega)) ?_
 obtain⟨g2,hg2⟩:=listN (n:=32) (tagE (sb s) l) rfl
 refine SX.E (.agg (((List.range 32).map g2).flatMap c8).toArray) (fun α=>by rw [← hg2];exact⟨[⟨(α 7).h,1,(sumE (sb s)++l).flatMap c8⟩],⟨Eq.trans (b:=⟨(α 7).h,1,((List.range 32).map g).flatMap c8++(l.flatMap c8++[])⟩) (by rw [hg,List.append_nil,List.flatMap_append]) (by kernel_rfl),trivial⟩,⟨rfl,hL,_,_,rfl,by simp only [List.length_append,sumE_len];omega,rfl⟩,SX.noAli rfl⟩) ?_
 exact SX.VC_ret fun α W _ _ hS=>SX.ret_of (x:=.agg (((List.range 32).map g2).flatMap c8).toArray) hS (by kernel_rfl) (by rw [hg2])
def encF:Fl→List W8
 | .n k=>1#8::numB (unsN k)
 | .s b=>2#8::(numB b.size++sb b)
def encL(l:List Fl):List W8:=3#8::(numB l.length++l.flatMap encF)
theorem encF_len{z:Fl}(h:z.fits):(encF z).length≤1048600:=by
 cases z with
 | n k =>
  have:=numB_len 9 (unsN k) (by have:=unsN_lt h.1 h.2;omega)
  simp only [encF,List.length_cons];omega
 | s b =>
  have h:b.size≤1048576:=h
  have:=numB_len 9 b.size (by omega)
  simp only [encF,List.length_cons,List.length_append,sb_len];omega
theorem encL_len{l:List Fl}(h:∀ z∈l,z.fits):(l.flatMap encF).length≤l.length*1048600:=by
 induction l with
 | nil=>simp
 | cons z l ih =>
  have h1:=encF_len (h z (by simp))
  have h2:=ih fun y hy=>h y (by simp [hy])
  simp only [List.flatMap_cons,List.length_append,List.length_cons]
  omega
def RC4(f:FuncId)(xs:List SX.Arg)(v:Value):Prop:=f=95∧∃ k:Int,xs=[⟨.int .i64 k,0,[]⟩]∧(-9223372036854775808≤k∧k≤9223372036854775807)∧v=.int .u64 (unsN k:Int)
def shpC4:FuncId→Option SX.Sh:=fun f=>if f=95 then some .one else none
noncomputable def cxC4(K A:Value→Nat→List Value→Prop):SX.Cx:={ P:=Tryd.prog,R:=fun _=>RC4,shp:=shpC4,K:=K,A:=A,trm:=true,tl:=[93,96],rc:=fun f=>if f=94 then some true else none }
theorem okC4(K A:Value→Nat→List Value→Prop):(cxC4 K A).Ok:=by
 refine SX.Cx.ok_of (fun _=>rfl) ?_
 intro K f xs v W hR hrd hKf
 obtain⟨rfl,k,rfl,h1,rfl⟩:=hR
 exact(unsigned_any k W h1.1 h1.2).mono fun e w' h=>SX.plainOk rfl h
def args_w3:List SX.V:=[.k (.slice none 0 0),.a [.k (.int .i64 3),.k (.int .i64 0),.k (.string ⟨#[]⟩),.x 0 []],.p 0 0]
def bl_w3:List SX.Blk:=[⟨[.p 1 0],157,.cells⟩,⟨[.k .nilFunc,.f (.func 93) [] [],.f (.func 96) [] [],.f (.func 97) [] [.p 0 0]],172,.cells⟩]
def tree_w3:SX.Tree :=
(.df (.app 1 1 (.own 1 [(.k (.int .u8 3))])) [(.cat []),(.sl 4 0 1 1)] .any
(.df (.len false) [(.x 0 [])] .one
(.df (.conv .u64) [(.x 2 [])] .one
(.df (.callr 94 [.no] 1 5) [(.cat [(.x 1 [])]),(.x 3 [])] .any
(.df (.len false) [(.x 0 [])] .one
(.loop [(.k (.int .i64 0)),(.cat [(.x 4 [])])] [.one,.any]
(.df (.bin .lss 3) [(.x 6 []),(.x 5 [])] .one
(.br 8 []
(.df .bnd [(.x 0 []),(.x 6 [])] .one
(.df (.elems 4 0 4) [(.x 0 []),(.x 6 [])] (.ag 4)
(.sp 10 [0] [.bad 46 [],
(.df (.app 1 1 (.own 1 [(.k (.int .u8 1))])) [(.cat [(.x 7 [])]),(.sl 16 0 1 1)] .any
(.df (.call 95 [.no]) [(.x 10 [1])] .one
(.df (.callr 94 [.no] 1 5) [(.cat [(.x 7 []),(.x 11 [])]),(.x 12 [])] .any
(.df (.bin .add 3) [(.x 6 []),(.k (.int .i64 1))] .one
(.again 0 [(.x 14 []),(.cat [(.x 13 [])])]))))),
(.df (.app 1 1 (.own 1 [(.k (.int .u8 2))])) [(.cat [(.x 7 [])]),(.sl 16 0 1 1)] .any
(.df (.len true) [(.x 10 [2])] .one
(.df (.conv .u64) [(.x 12 [])] .one
(.df (.callr 94 [.no] 1 5) [(.cat [(.x 7 []),(.x 11 [])]),(.x 13 [])] .any
(.df (.aps 1) [(.cat [(.x 14 [])]),(.x 10 [2])] .any
(.df (.bin .add 3) [(.x 6 []),(.k (.int .i64 1))] .one
(.again 0 [(.x 16 []),(.cat [(.x 14 []),(.x 15 [])])]))))))),.bad 44 []])))
(.ret (.row 12) [none,none,none,none,none,none,none,none,none,none,none,none,(some ⟨[(.x 7 [])],5,(.row 1)⟩)] [[(some (.p 0 0)),(some (.p 1 0))]])))))))))
set_option maxRecDepth 100000 in
theorem run_w3(K A:Value→Nat→List Value→Prop):(SX.run (cxC4 K A) ⟨fun f=>true,[⟨97,3,[(.s 19,.one),(.s 0,.row 1 5)]⟩],2,100⟩ 100000 0 { fr:=args_w3.map some++List.replicate (Tryd.f97.ntmps-args_w3.length) (some (.k undef)),stk:=[(List.range bl_w3.length).map fun n=>some (.p n 0)],hp:=bl_w3.map some,ln:=bl_w3.map some,sh:=[.one],kn:=[],lps:=[],cur:=97 } [.code (Tryd.f97.body.getD .skip),.top Tryd.f97]).strip=tree_w3:=by kernel_rfl
set_option maxRecDepth 100000 in
set_option maxHeartbeats 4000000 in
theorem write_any(fl:List Fl)(A:Option Addr)(n c b0 b1:Nat)(w:World)(hr:∀ W',Same [b0,b1] w W'→Rd W' 4 A n (flL fl))(hn:n≤1048576)(hc:n≤c)(hfit:∀ z∈fl,z.fits)(hne:b0≠b1)
 (h0:w.heap[b0]?=some (.cells #[.pointer (some ⟨b1,0,none⟩)] 157 (0,0)))
 (h1:w.heap[b1]?=some (.cells #[.nilFunc,.func (.func 93) #[] #[],.func (.func 96) #[] #[],.func (.func 97) #[] #[.pointer (some ⟨b0,0,none⟩)]] 172 (0,0))) :
 Calls Tryd.prog 97 #[.slice none 0 0,.agg #[.int .i64 3,.int .i64 0,.string ⟨#[]⟩,.slice A n c],.pointer (some ⟨b0,0,none⟩)] w fun e w'=>∃ h' b' tl',e=.returned h'∧w'.os=w.os∧w'.tape=w.tape∧w'.output=w.output∧Same [b0,b1] w w'∧RowAt 1 h' b' 5 ((encL fl).flatMap c8) tl' w'∧(b'∈[b0,b1]∨w.heap.size≤b'):=by
 refine SX.calls_of_runX (C:=cxC4 (fun s sz cells=>s=.slice A n c∧sz=4∧cells=flL fl) (fun _ _ _=>False)) (G:=⟨fun f=>true,[⟨97,3,[(.s 19,.one),(.s 0,.row 1 5)]⟩],2,100⟩) (args:=args_w3) (sh:=[.one]) (ρ:=[.slice A n c]) (bs:=[b0,b1]) (bl:=bl_w3) 100000 tree_w3 (okC4 _ _) Tryd.func97 rfl (run_w3 _ _) (by kernel_rfl) (by kernel_rfl) rfl ?_ (by simp [hne]) rfl ?_ (by decide) ?_
 ·rintro W hW s sz cells ⟨rfl,rfl,rfl⟩;exact⟨hr W hW,hc⟩
 ·intro i b B hi hB
  match i,hi,hB with
  | 0,hi,hB=>cases hi;cases hB;exact h0
  | 1,hi,hB=>cases hi;cases hB;exact h1
 have hA:=SX.rd_some (hr w (.refl _ _))
 have hln:fl.length=n:=by have:=(hr w (.refl _ _)).1;rw [flL_len]at this;omega
 have hN:=numB_len 9 n (by omega)
 unfold tree_w3
 refine SX.E (Value.agg (([3#8]).flatMap c8).toArray) (fun α=>SX.app_rel (f:=c8) (l1:=[]) (l2:=[3#8]) (fun _=>rfl) c8o (by decide) (by kernel_rfl) (SX.src_own (by kernel_rfl)) (by decide) (by decide)) ?_
 refine SX.D (.int .i64 (n:Int)) ?_
 refine SX.E (.int .u64 (n:Int)) (fun α=>Eq.trans (b:=some (.int .u64 (IntKind.u64.wrap (n:Int)))) (by kernel_rfl) (by rw [wrap_u];congr 2;omega)) ?_
 refine SX.VC_df (Value.agg (([3#8]++numB n).flatMap c8).toArray) (fun α=>⟨[⟨.int .u64 (n:Int),0,[]⟩],⟨by kernel_rfl,by kernel_rfl,trivial⟩,SX.RCall.old (numeral_rc rfl (by omega) (by decide)) (SX.cat1 (by kernel_rfl))⟩) rfl ?_
 refine SX.D (.int .i64 (n:Int)) ?_
 refine SX.VC_loop (fun xs=>∃ (i:Nat),xs=[.int .i64 (i:Int),.agg (([3#8]++numB n++(fl.take i).flatMap encF).flatMap c8).toArray]∧i≤n) (fun xs=>match xs with|.int _ i::_=>n-i.toNat|_=>0) (fun α=>⟨0,Eq.trans (b:=[.int .i64 0,.agg ([Value.agg (([3#8]++numB n).flatMap c8).toArray].flatMap SX.cellsV).toArray]) (by kernel_rfl) (by simp [SX.cellsV]),by omega⟩) ?_
 rintro xs-⟨i,rfl,hin⟩
 have hEl:=encL_len (l:=fl.take i) (fun z hz=>hfit z (List.mem_of_mem_take hz))
 have hEi:(fl.take i).length≤n:=by rw [List.length_take];omega
 obtain⟨acc,hacc⟩:∃ acc,[3#8]++numB n++(fl.take i).flatMap encF=acc:=⟨_,rfl⟩
 have hal:acc.length≤1099600000000:=by
  rw [← hacc];simp only [LL];omega
 rw [hacc]
 refine SX.D (.bool (decide ((i:Int)<(n:Int)))) ?_
 refine SX.B (decide ((i:Int)<(n:Int))) (fun h8=>?_) (fun h8=>?_)
 ·have h8:i<n:=by have:=of_decide_eq_true h8;omega
  obtain⟨z,hz⟩:∃ z,fl[i]?=some z:=⟨_,List.getElem?_eq_getElem (by omega)⟩
  have hzf:=hfit z (List.mem_of_getElem? hz)
  have htk:[3#8]++numB n++(fl.take (i+1)).flatMap encF=acc++encF z:=by rw [List.take_add_one,hz,← hacc];simp
  refine SX.E (.bool true) (fun α=>SX.extBnd (A:=A) (n:=n) (c:=c) (j:=i) hA (by kernel_rfl) (by kernel_rfl) h8) ?_
  refine SX.VC_df (valFl z) (fun α=>SX.extElems (f:=cellsFl) (l:=fl) (A:=A) (n:=n) (c:=c) (j:=i) (z:=z) cellsFl_len hA (by kernel_rfl) (by kernel_rfl) h8 ⟨rfl,rfl,rfl⟩ hz) (by cases z<;>rfl) ?_
  cases z with
  | n k =>
   have hu:=unsN_lt hzf.1 hzf.2
   refine SX.VC_sp 1 (by decide) (by kernel_rfl) fun t ht=>?_
   cases (Option.some.inj ht)
   refine SX.E (Value.agg (([1#8]).flatMap c8).toArray) (fun α=>SX.app_rel (f:=c8) (l1:=acc) (l2:=[1#8]) (fun _=>rfl) c8o (by decide) (SX.cat1 (by kernel_rfl)) (SX.src_own (by kernel_rfl)) (by simp only [LL];omega) (by simp only [LL];omega)) ?_
   refine SX.E (.int .u64 (unsN k:Int)) (fun α=>⟨[⟨.int .i64 k,0,[]⟩],⟨by kernel_rfl,by kernel_rfl,trivial⟩,⟨rfl,k,rfl,hzf,rfl⟩,SX.noAli rfl⟩) ?_
   refine SX.VC_df (Value.agg (((acc++[1#8])++numB (unsN k)).flatMap c8).toArray) (fun α=>⟨[⟨.int .u64 (unsN k:Int),0,[]⟩],⟨by kernel_rfl,by kernel_rfl,trivial⟩,SX.RCall.old (numeral_rc rfl hu (by simp only [LL];omega)) (Eq.trans (b:=[Value.agg (acc.flatMap c8).toArray,Value.agg (([1#8]).flatMap c8).toArray].flatMap SX.cellsV) (by kernel_rfl) (by simp [SX.cellsV]))⟩) rfl ?_
   refine SX.E (.int .i64 ((i+1:Nat):Int)) (fun α=>SX.W1 i) ?_
   exact SX.VC_again fun α=>⟨⟨i+1,Eq.trans (b:=[.int .i64 ((i+1:Nat):Int),.agg ([Value.agg (((acc++[1#8])++numB (unsN k)).flatMap c8).toArray].flatMap SX.cellsV).toArray]) (by kernel_rfl) (by rw [htk];simp [SX.cellsV,encF]),by omega⟩,cast (by kernel_rfl) (show n-((i+1:Nat):Int).toNat<n-(i:Int).toNat by omega)⟩
  | s b =>
   have hzs:b.size≤1048576:=hzf
   have hBn:=numB_len 9 b.size (by omega)
   refine SX.VC_sp 2 (by decide) (by kernel_rfl) fun t ht=>?_
   cases (Option.some.inj ht)
   refine SX.E (Value.agg (([2#8]).flatMap c8).toArray) (fun α=>SX.app_rel (f:=c8) (l1:=acc) (l2:=[2#8]) (fun _=>rfl) c8o (by decide) (SX.cat1 (by kernel_rfl)) (SX.src_own (by kernel_rfl)) (by simp only [LL];omega) (by simp only [LL];omega)) ?_
   refine SX.D (.int .i64 (b.size:Int)) ?_
   refine SX.E (.int .u64 (b.size:Int)) (fun α=>Eq.trans (b:=some (.int .u64 (IntKind.u64.wrap (b.size:Int)))) (by kernel_rfl) (by rw [wrap_u];congr 2;omega)) ?_
   refine SX.VC_df (Value.agg (((acc++[2#8])++numB b.size).flatMap c8).toArray) (fun α=>⟨[⟨.int .u64 (b.size:Int),0,[]⟩],⟨by kernel_rfl,by kernel_rfl,trivial⟩,SX.RCall.old (numeral_rc rfl (by omega) (by simp only [LL];omega)) (Eq.trans (b:=[Value.agg (acc.flatMap c8).toArray,Value.agg (([2#8]).flatMap c8).toArray].flatMap SX.cellsV) (by kernel_rfl) (by simp [SX.cellsV]))⟩) rfl ?_
   have hcl:∀ l:List W8,(l.flatMap c8).length=l.length:=fun l=>by induction l with
    | nil=>rfl
    | cons a l ih=>simp only [List.flatMap_cons,List.length_append,c8_len,List.length_cons,ih];omega
   refine SX.VC_df (Value.agg ((sb b).flatMap c8).toArray) (fun α=>⟨b,by kernel_rfl,?_,?_,by rw [sb_cells]⟩) rfl ?_
   ·rw [show SX.cellsV _=(((acc++[2#8])++numB b.size).flatMap c8) from SX.cat1 (by kernel_rfl),hcl];simp only [LL];omega
   ·rw [show SX.cellsV _=(((acc++[2#8])++numB b.size).flatMap c8) from SX.cat1 (by kernel_rfl),hcl];simp only [LL];omega
   refine SX.E (.int .i64 ((i+1:Nat):Int)) (fun α=>SX.W1 i) ?_
   exact SX.VC_again fun α=>⟨⟨i+1,Eq.trans (b:=[.int .i64 ((i+1:Nat):Int),.agg ([Value.agg (((acc++[2#8])++numB b.size).flatMap c8).toArray,Value.agg ((sb b).flatMap c8).toArray].flatMap SX.cellsV).toArray]) (by kernel_rfl) (by rw [htk];simp [SX.cellsV,encF]),by omega⟩,cast (by kernel_rfl) (show n-((i+1:Nat):Int).toNat<n-(i:Int).toNat by omega)⟩
 have h8:i=n:=by have:=of_decide_eq_false h8;omega
 refine SX.VC_ret fun α W _ hR hS=>?_
 have he:acc=encL fl:=by rw [← hacc,List.take_of_length_le (by omega)];unfold encL;rw [hln];simp
 rw [← he]
 exact SX.rret hS (n:=12) (b:=(⟨[(.x 7 [])],5,(.row 1)⟩:SX.Blk)) (by kernel_rfl) rfl (hR 12 _ (by kernel_rfl)) (Eq.trans (b:=[Value.agg (acc.flatMap c8).toArray].flatMap SX.cellsV) (by kernel_rfl) (by simp [SX.cellsV]))
def NW(w:World)(u:Nat→Nat→Value)(v:Value)(Y:World):Prop:=∃ b0 b1,v=u b0 b1∧b0≠b1∧w.heap.size≤b0∧w.heap.size≤b1∧Y.heap[b0]?=some (.cells #[.pointer (some ⟨b1,0,none⟩)] 157 (0,0)) ∧
 Y.heap[b1]?=some (.cells #[.nilFunc,.func (.func 93) #[] #[],.func (.func 96) #[] #[],.func (.func 97) #[] #[.pointer (some ⟨b0,0,none⟩)]] 172 (0,0))
theorem NW.step{w Y Y':World}{u:Nat→Nat→Value}{v:Value}(h:NW w u v Y)(hb:Below Y.heap.size Y Y'):NW w u v Y':=by
 obtain⟨b0,b1,h1,h2,h3,h4,h5,h6⟩:=h
 exact⟨b0,b1,h1,h2,h3,h4,(hb.block b0 (Array.getElem?_eq_some_iff.1 h5).1).trans h5,(hb.block b1 (Array.getElem?_eq_some_iff.1 h6).1).trans h6⟩
def args_nw:List SX.V:=[]
def tree_nw:SX.Tree :=
(.ret (.p 0 0) [(some ⟨[(.k .nilFunc),(.f (.func 93) [] []),(.f (.func 96) [] []),(.f (.func 97) [] [(.p 1 0)])],172,.cells⟩),(some ⟨[(.p 0 0)],157,.cells⟩)] [])
set_option maxRecDepth 100000 in
theorem run_nw(K A:Value→Nat→List Value→Prop):(SX.run (cx0 K A) ⟨fun f=>true,[],1,100⟩ 100000 0 (SX.door 84 Tryd.f84 args_nw []) [.code (Tryd.f84.body.getD .skip),.top Tryd.f84]).strip=tree_nw:=by kernel_rfl
theorem newWriter_any(w:World):Calls Tryd.prog 84 #[] w fun e w'=>∃ v,e=.returned v∧NW w (fun _ b1=>.pointer (some ⟨b1,0,none⟩)) v w'∧Below w.heap.size w w':=by
 refine SX.calls_of_run (C:=cx0 (fun _ _ _=>False) (fun _ _ _=>False)) (G:=⟨fun f=>true,[],1,100⟩) (args:=args_nw) (sh:=[]) (ρ:=[]) 100000 tree_nw (cx0_ok _ _) Tryd.func84 rfl (run_nw _ _) (by kernel_rfl) (by kernel_rfl) (by kernel_rfl) (fun W _=>SX.Kf_none (fun _ _ _ h=>h) W) ?_
 unfold tree_nw
 refine SX.VC_ret fun α W _ hR hS=>?_
 have m1:(⟨(α 0).b,#[.nilFunc,.func (.func 93) #[] #[],.func (.func 96) #[] #[],.func (.func 97) #[] #[.pointer (some ⟨(α 1).b,0,none⟩)]],.cells 172⟩:Ch)∈SX.chs [] α 0 [(some ⟨[(.k .nilFunc),(.f (.func 93) [] []),(.f (.func 96) [] []),(.f (.func 97) [] [(.p 1 0)])],172,.cells⟩),(some ⟨[(.p 0 0)],157,.cells⟩)]:=List.Mem.head _
 have m2:(⟨(α 1).b,#[.pointer (some ⟨(α 0).b,0,none⟩)],.cells 157⟩:Ch)∈SX.chs [] α 0 [(some ⟨[(.k .nilFunc),(.f (.func 93) [] []),(.f (.func 96) [] []),(.f (.func 97) [] [(.p 1 0)])],172,.cells⟩),(some ⟨[(.p 0 0)],157,.cells⟩)]:=List.Mem.tail _ (List.Mem.head _)
 refine⟨_,rfl,⟨(α 1).b,(α 0).b,rfl,fun he=>?_,(hS.ge_ m2).resolve_right nofun,(hS.ge_ m1).resolve_right nofun,hS.at_ m2,hS.at_ m1⟩,hS.below⟩
 have:=hS.nodup
 have e:muts (SX.chs [] α 0 [(some ⟨[(.k .nilFunc),(.f (.func 93) [] []),(.f (.func 96) [] []),(.f (.func 97) [] [(.p 1 0)])],172,.cells⟩),(some ⟨[(.p 0 0)],157,.cells⟩)]) []=[(α 0).b,(α 1).b]:=rfl
 rw [e]at this
 simp [he]at this
theorem SX.SlRet.at_{w W:World}{h:Value}{b:Nat}{t:TypeId}{cells tl:List Value}{sz:Nat}(hr:RowAt sz h b t cells tl W)(hb:w.heap.size≤b):SX.SlRet w W [] h sz cells:=by
 rcases hr with ⟨rfl,rfl⟩|⟨len,cap,rfl,h1,h2,h3,h4,h5⟩
 ·exact .nil
 refine⟨⟨_,_,_,rfl,h3⟩,⟨?_,h3⟩,.inl fun ad k c e _=>?_⟩
 ·refine Rd.of_blk h5 h1 fun j u hu=>?_
  rw [Nat.zero_add]
  have:(cells++tl)[j]?=some u:=by rw [List.getElem?_append_left (List.getElem?_eq_some_iff.1 hu).1];exact hu
  simpa using this
 cases e
 exact hb
set_option maxRecDepth 100000 in
set_option maxHeartbeats 1000000 in
theorem encode_any(fl:List Fl)(A:Option Addr)(n c:Nat)(w:World)(hr:Rd w 4 A n (flL fl))(hn:n≤1048576)(hc:n≤c)(hfit:∀ z∈fl,z.fits) :
 Calls Tryd.prog 61 #[.agg #[.int .i64 3,.int .i64 0,.string ⟨#[]⟩,.slice A n c]] w fun e w'=>Below w.heap.size w w'∧∃ hdr,e=.returned (.tuple #[hdr,.int .i64 0])∧SX.SlRet w w' [] hdr 1 ((encL fl).flatMap c8):=by
 have hS:=St.start w
 have h1:∀ u∈[Value.int .i64 3,.int .i64 0,.string ⟨#[]⟩,.slice A n c],u.oneCell'=true:=by
  intro u hu
  simp only [List.mem_cons,List.not_mem_nil,or_false]at hu
  rcases hu with rfl|rfl|rfl|rfl<;>rfl
 go_enter Tryd.func61,Tryd.ntmps61
 go_wp2_with (first
  | ((first|(with_reducible refine wpList_plain (o:=⟨some 1,.box _ _,_,_,_,_⟩) rfl fun K hK=>?_)|((with_reducible refine BigFrame.wpList_want (o:=⟨some 1,.box _ _,_,_,_,_⟩) ?_ fun K hK=>?_);· rfl));(first|refine wp_box_row rfl (ev_eq rfl) hS ?_|refine wp_box_one rfl (ev_eq rfl) rfl hS ?_);clear hS;intro k1 W hS hBw hk0;clear hBw hk0;refine hK _ _ ?_;clear hK K)
  | ((first|(with_reducible refine wpList_plain (o:=⟨_,.load _ _,_,_,_,_⟩) rfl fun K hK=>?_)|((with_reducible refine BigFrame.wpList_want (o:=⟨_,.load _ _,_,_,_,_⟩) ?_ fun K hK=>?_);· rfl));(first|refine wp_load_one rfl (ev_eq rfl) hS (by repeat (first|exact List.Mem.head _|apply List.Mem.tail)) rfl (by first|rfl|assumption) ?_|refine wp_load_row' rfl (ev_eq rfl) hS (by repeat (first|exact List.Mem.head _|apply List.Mem.tail)) rfl (by first|assumption|rfl) ?_|refine wp_load_sub rfl (ev_eq rfl) hS (by repeat (first|exact List.Mem.head _|apply List.Mem.tail)) rfl rfl (by first|assumption|exact of_decide_eq_true rfl|(simp;omega)) (by assumption) ?_|refine wp_load_at rfl (ev_eq rfl) rfl (by assumption) (by first|assumption|rfl) ?_|refine wp_load_cell rfl (ev_eq rfl) rfl (by assumption) ?_);refine hK _ _ ?_;clear hK K))
 have hcon:(Calls Tryd.prog 83 #[.agg #[.int .i64 3,.int .i64 0,.string ⟨#[]⟩,.slice A n c]] W fun e w'=>e=.returned (.int .i64 0)∧Below W.heap.size W w'):=fcheck_any fl A n c W (hr.below hS.below) (by omega) hc
 refine hcon.mono ?_
 clear hcon
 rintro e w' ⟨rfl,hB⟩
 replace hS:=hS.step hB
 clear hB
 go_wp2_with (first
  | ((first|(with_reducible refine wpList_plain (o:=⟨some 1,.box _ _,_,_,_,_⟩) rfl fun K hK=>?_)|((with_reducible refine BigFrame.wpList_want (o:=⟨some 1,.box _ _,_,_,_,_⟩) ?_ fun K hK=>?_);· rfl));(first|refine wp_box_row rfl (ev_eq rfl) hS ?_|refine wp_box_one rfl (ev_eq rfl) rfl hS ?_);clear hS;intro k1 W hS hBw hk0;clear hBw hk0;refine hK _ _ ?_;clear hK K)
  | ((first|(with_reducible refine wpList_plain (o:=⟨_,.load _ _,_,_,_,_⟩) rfl fun K hK=>?_)|((with_reducible refine BigFrame.wpList_want (o:=⟨_,.load _ _,_,_,_,_⟩) ?_ fun K hK=>?_);· rfl));(first|refine wp_load_one rfl (ev_eq rfl) hS (by repeat (first|exact List.Mem.head _|apply List.Mem.tail)) rfl (by first|rfl|assumption) ?_|refine wp_load_row' rfl (ev_eq rfl) hS (by repeat (first|exact List.Mem.head _|apply List.Mem.tail)) rfl (by first|assumption|rfl) ?_|refine wp_load_sub rfl (ev_eq rfl) hS (by repeat (first|exact List.Mem.head _|apply List.Mem.tail)) rfl rfl (by first|assumption|exact of_decide_eq_true rfl|(simp;omega)) (by assumption) ?_|refine wp_load_at rfl (ev_eq rfl) rfl (by assumption) (by first|assumption|rfl) ?_|refine wp_load_cell rfl (ev_eq rfl) rfl (by assumption) ?_);refine hK _ _ ?_;clear hK K))
 refine wp_region_tail 8 (by kernel_rfl) (by kernel_rfl) (by kernel_rfl) (fun i v Y=>match i with|0=>NW w (fun _ b1=>.pointer (some ⟨b1,0,none⟩)) v Y|1=>v=.pointer (some ⟨k1,0,none⟩)|2=>v=.int .i64 3|3=>NW w (fun _ b1=>.pointer (some ⟨b1,0,none⟩)) v Y|4=>NW w (fun _ b1=>.pointer (some ⟨b1,3,none⟩)) v Y|5=>NW w (fun _ b1=>.pointer (some ⟨b1,3,none⟩)) v Y|6=>NW w (fun b0 _=>.func (.func 97) #[] #[.pointer (some ⟨b0,0,none⟩)]) v Y|7=>v=.agg #[.int .i64 3,.int .i64 0,.string ⟨#[]⟩,.slice A n c]|_=>True)
  (fun Z=>Below w'.heap.size w' Z) (fun Z Z'=>Below Z.heap.size Z Z') ?_ (Below.refl _ _).drew ?_ ?_
 ·intro i v Z Z' hb hv
  match i with
  | 0 =>
   exact hv.step hb
  | 3 =>
   exact hv.step hb
  | 4 =>
   exact hv.step hb
  | 5 =>
   exact hv.step hb
  | 6 =>
   exact hv.step hb
  | 1|2|7|_+8=>exact hv
 ·refine⟨?_,?_,?_,?_,?_,?_,?_,?_,trivial⟩
  all_goals refine opOb_plain rfl fun b' W' K hf hd hF hK=>?_
  all_goals have hS:=hS.step hF
  ·refine wp_callF (vs:=#[]) rfl rfl (by simp) (Tryd.call84 _ _) (R:=fun v W2=>NW W' (fun _ b1=>.pointer (some ⟨b1,0,none⟩)) v W2∧Below W'.heap.size W' W2) ((newWriter_any W').mono fun e W2 h=>by obtain⟨v,h1,h2,h3⟩:=h;exact⟨v,h1,h2,h3⟩) ?_
   rintro v W2 ⟨hn2,hb2⟩
   exact hK _ _ (fun _=>by obtain⟨b0,b1,g1,g2,g3,g4,g5⟩:=hn2;exact⟨b0,b1,g1,g2,Nat.le_trans hS.below.size g3,Nat.le_trans hS.below.size g4,g5⟩) (hF.trans (hb2.mono hF.size)) hb2
  ·have e1:=(hf 1 rfl).trans (ev_eq rfl)
   exact wp_fieldAddr rfl e1 rfl (hK _ _ (fun _=>rfl) hF (Below.refl _ _))
  ·have e11:b'.eval (.tmp 11)=.pointer (some ⟨k1,0,none⟩):=hd ⟨1,.data⟩ (by simp) rfl 11 rfl
   first|exact wp_load_one rfl e11 hS (by repeat (first|exact List.Mem.head _|apply List.Mem.tail)) rfl (by first|rfl|assumption) (hK _ _ (fun _=>rfl) hF (Below.refl _ _))|exact wp_load_row' rfl e11 hS (by repeat (first|exact List.Mem.head _|apply List.Mem.tail)) rfl (by first|assumption|rfl) (hK _ _ (fun _=>rfl) hF (Below.refl _ _))|exact wp_load_sub rfl e11 hS (by repeat (first|exact List.Mem.head _|apply List.Mem.tail)) rfl rfl (by first|assumption|exact of_decide_eq_true rfl|(simp;omega)) (by assumption) (hK _ _ (fun _=>rfl) hF (Below.refl _ _))|exact wp_load_cell rfl e11 rfl (by assumption) (hK _ _ (fun _=>rfl) hF (Below.refl _ _))
  ·have s10:=hd ⟨0,.data⟩ (by simp) rfl 10 rfl
   obtain⟨b0,b1,g1,g2⟩:=s10
   exact wp_nil rfl g1 (hK _ _ (fun _=>⟨b0,b1,rfl,g2⟩) hF (Below.refl _ _))
  ·have s13:=hd ⟨3,.data⟩ (by simp) rfl 13 rfl
   have e12:b'.eval (.tmp 12)=.int .i64 3:=hd ⟨2,.data⟩ (by simp) rfl 12 rfl
   obtain⟨b0,b1,g1,g2⟩:=s13
   exact wp_indexAddr_arr rfl g1 e12 rfl (by omega) (by omega) rfl (by rfl) (hK _ _ (fun _=>⟨b0,b1,rfl,g2⟩) hF (Below.refl _ _))
  ·have s14:=hd ⟨4,.data⟩ (by simp) rfl 14 rfl
   obtain⟨b0,b1,g1,g2⟩:=s14
   exact wp_fieldAddr rfl g1 rfl (hK _ _ (fun _=>⟨b0,b1,rfl,g2⟩) hF (Below.refl _ _))
  ·have s15:=hd ⟨5,.data⟩ (by simp) rfl 15 rfl
   obtain⟨b0,b1,g1,g2⟩:=s15
   exact wp_load_cell rfl g1 rfl (by rw [cell_of_row _ _ _ _ _ (0,0) g2.2.2.2.2];rfl) (hK _ _ (fun _=>⟨b0,b1,rfl,g2⟩) hF (Below.refl _ _))
  have e1:=(hf 1 rfl).trans (ev_eq rfl)
  first|exact wp_load_one rfl e1 hS (by repeat (first|exact List.Mem.head _|apply List.Mem.tail)) rfl (by first|rfl|assumption) (hK _ _ (fun _=>rfl) hF (Below.refl _ _))|exact wp_load_row' rfl e1 hS (by repeat (first|exact List.Mem.head _|apply List.Mem.tail)) rfl (by first|assumption|rfl) (hK _ _ (fun _=>rfl) hF (Below.refl _ _))|exact wp_load_sub rfl e1 hS (by repeat (first|exact List.Mem.head _|apply List.Mem.tail)) rfl rfl (by first|assumption|exact of_decide_eq_true rfl|(simp;omega)) (by assumption) (hK _ _ (fun _=>rfl) hF (Below.refl _ _))|exact wp_load_cell rfl e1 rfl (by assumption) (hK _ _ (fun _=>rfl) hF (Below.refl _ _))
 intro vs W3 hv hF
 have hSb:=hS
 replace hS:=hS.step hF
 obtain⟨b0,b1,va,hne,hb0,hb1,hc0,hc1⟩:=hv 6 16 rfl
 have vb:vs 7=.agg #[.int .i64 3,.int .i64 0,.string ⟨#[]⟩,.slice A n c]:=hv 7 17 rfl
 clear hF hv
 simp only [putAll,Nat.reduceAdd,List.take_succ_cons,List.take_zero,List.drop_succ_cons,List.drop_zero,List.setIfInBounds_toArray,List.set_cons_zero,List.set_cons_succ,va,vb]
 clear va vb
 go_wp2_with (first
  | ((first|(with_reducible refine wpList_plain (o:=⟨some 1,.box _ _,_,_,_,_⟩) rfl fun K hK=>?_)|((with_reducible refine BigFrame.wpList_want (o:=⟨some 1,.box _ _,_,_,_,_⟩) ?_ fun K hK=>?_);· rfl));(first|refine wp_box_row rfl (ev_eq rfl) hS ?_|refine wp_box_one rfl (ev_eq rfl) rfl hS ?_);clear hS;intro k1 W hS hBw hk0;clear hBw hk0;refine hK _ _ ?_;clear hK K)
  | ((first|(with_reducible refine wpList_plain (o:=⟨_,.load _ _,_,_,_,_⟩) rfl fun K hK=>?_)|((with_reducible refine BigFrame.wpList_want (o:=⟨_,.load _ _,_,_,_,_⟩) ?_ fun K hK=>?_);· rfl));(first|refine wp_load_one rfl (ev_eq rfl) hS (by repeat (first|exact List.Mem.head _|apply List.Mem.tail)) rfl (by first|rfl|assumption) ?_|refine wp_load_row' rfl (ev_eq rfl) hS (by repeat (first|exact List.Mem.head _|apply List.Mem.tail)) rfl (by first|assumption|rfl) ?_|refine wp_load_sub rfl (ev_eq rfl) hS (by repeat (first|exact List.Mem.head _|apply List.Mem.tail)) rfl rfl (by first|assumption|exact of_decide_eq_true rfl|(simp;omega)) (by assumption) ?_|refine wp_load_at rfl (ev_eq rfl) rfl (by assumption) (by first|assumption|rfl) ?_|refine wp_load_cell rfl (ev_eq rfl) rfl (by assumption) ?_);refine hK _ _ ?_;clear hK K))
 have hcon:=write_any fl A n c b0 b1 W3 (fun W' h=>hr.same0 ⟨Nat.le_trans hS.below.size h.size,fun k hk _=>(h.block k (by have:=hS.below.size;omega) (by simp;omega)).trans (hS.below.block k hk)⟩) hn hc hfit hne hc0 hc1
 refine hcon.mono ?_
 clear hcon
 rintro e w4 ⟨h',b',tl',rfl,o1,o2,o3,hsm,hrow,hb'⟩
 have hbw:=hS.below
 have hbel:Below w.heap.size w w4:=⟨o1.trans hbw.os,o2.trans hbw.tape,o3.trans hbw.output,Nat.le_trans hbw.size hsm.size,fun k hk=>(hsm.block k (by have:=hbw.size;omega) (by simp;omega)).trans (hbw.block k hk)⟩
 have hret:=SX.SlRet.at_ (w:=w) hrow (by have:=hbw.size;rcases hb' with hb'|hb';(simp at hb';omega);omega)
 clear hS hSb hsm hrow hb' o1 o2 o3 hbw
 have hS:=St.start w4
 go_wp2_with (first
  | ((first|(with_reducible refine wpList_plain (o:=⟨some 1,.box _ _,_,_,_,_⟩) rfl fun K hK=>?_)|((with_reducible refine BigFrame.wpList_want (o:=⟨some 1,.box _ _,_,_,_,_⟩) ?_ fun K hK=>?_);· rfl));(first|refine wp_box_row rfl (ev_eq rfl) hS ?_|refine wp_box_one rfl (ev_eq rfl) rfl hS ?_);clear hS;intro k1 W hS hBw hk0;clear hBw hk0;refine hK _ _ ?_;clear hK K)
  | ((first|(with_reducible refine wpList_plain (o:=⟨_,.load _ _,_,_,_,_⟩) rfl fun K hK=>?_)|((with_reducible refine BigFrame.wpList_want (o:=⟨_,.load _ _,_,_,_,_⟩) ?_ fun K hK=>?_);· rfl));(first|refine wp_load_one rfl (ev_eq rfl) hS (by repeat (first|exact List.Mem.head _|apply List.Mem.tail)) rfl (by first|rfl|assumption) ?_|refine wp_load_row' rfl (ev_eq rfl) hS (by repeat (first|exact List.Mem.head _|apply List.Mem.tail)) rfl (by first|assumption|rfl) ?_|refine wp_load_sub rfl (ev_eq rfl) hS (by repeat (first|exact List.Mem.head _|apply List.Mem.tail)) rfl rfl (by first|assumption|exact of_decide_eq_true rfl|(simp;omega)) (by assumption) ?_|refine wp_load_at rfl (ev_eq rfl) rfl (by assumption) (by first|assumption|rfl) ?_|refine wp_load_cell rfl (ev_eq rfl) rfl (by assumption) ?_);refine hK _ _ ?_;clear hK K))
 refine bodyPost_ret (results_2 rfl rfl rfl) rfl ⟨hbel,h',rfl,hret⟩
theorem SX.SlRet.ok0{C:SX.Cx}{f:FuncId}{as':List SX.Arg}{W W':World}{e:Ending}{k:Int}{cells:List Value}{sz:Nat}(hs:C.sh f=.tp [.sl sz,.one])(h:Below W.heap.size W W'∧∃ hdr,e=.returned (.tuple #[hdr,.int .i64 k])∧SX.SlRet W W' [] hdr sz cells) :
 Below W.heap.size W W'∧∃ hdr,e=.returned ((C.sh f).fill hdr (.tuple #[.agg cells.toArray,.int .i64 k]))∧∀ p z,(p,z)∈(C.sh f).sls []→SX.HdrOk C f as' W W' hdr z (SX.cellsV (p.foldl SX.comp (.tuple #[.agg cells.toArray,.int .i64 k]))):=by
 obtain⟨hb,hdr,he,h1,h2,h3⟩:=h
 refine⟨hb,hdr,by rw [hs,he];rfl,fun p z hp=>?_⟩
 rw [hs]at hp
 obtain⟨rfl,rfl⟩:p=[0]∧z=sz:=by simpa [SX.Sh.sls,SX.Sh.slsL]using hp
 refine⟨h1,h2,.inl (h3.resolve_right ?_)⟩
 rintro⟨y,hy,_⟩
 cases hy
theorem SX.SlRet.ok1{C:SX.Cx}{f:FuncId}{as':List SX.Arg}{W W':World}{e:Ending}{cells:List Value}{sz:Nat}(hs:C.sh f=.sl sz)(h:Below W.heap.size W W'∧∃ hdr,e=.returned hdr∧SX.SlRet W W' [] hdr sz cells) :
 Below W.heap.size W W'∧∃ hdr,e=.returned ((C.sh f).fill hdr (.agg cells.toArray))∧∀ p z,(p,z)∈(C.sh f).sls []→SX.HdrOk C f as' W W' hdr z (SX.cellsV (p.foldl SX.comp (.agg cells.toArray))):=by
 obtain⟨hb,hdr,he,h1,h2,h3⟩:=h
 refine⟨hb,hdr,by rw [hs,he];rfl,fun p z hp=>?_⟩
 rw [hs]at hp
 obtain⟨rfl,rfl⟩:p=[]∧z=sz:=by simpa [SX.Sh.sls]using hp
 refine⟨h1,h2,.inl (h3.resolve_right ?_)⟩
 rintro⟨y,hy,_⟩
 cases hy
theorem SX.SlRet.ext0{w W:World}{hp:List (Option SX.Blk)}{ps:List (World→Prop)}{ρ:List Value}{α:Nat→SX.AV}{sz:Nat}{C:SX.Cx}(hS:St ⟨w,[],SX.Af C,SX.Bf C⟩ (SX.chs ρ α 0 hp) [] (SX.exs ⟨w,[],SX.Af C,SX.Bf C⟩ ρ α 0 hp++ps) W){n:Nat}{b:SX.Blk}(hb:hp[n]?=some (some b))(hk:b.k=.ext sz)(hr:b.rowOk ρ α n){cells:List Value}(hc:b.xs ρ α=cells)(hA:∀ W2,SX.Af C W2)(hB:∀ B,SX.Bf C B):SX.SlRet w W [] ((α n).h) sz cells:=by
 obtain⟨h1,h2,h3⟩:=SX.SlRet.ext hS hb hk hr hc (roots:=[⟨.slice none 0 0,0,[]⟩]) (x:=⟨.slice none 0 0,0,[]⟩) (by simp) (fun W2 _=>hA W2) (fun B _=>hB B)
 refine⟨h1,h2,.inl ?_⟩
 rcases h3 with h3|⟨x,hx,_,h4⟩
 ·exact h3
 obtain rfl:x=⟨.slice none 0 0,0,[]⟩:=by simpa using hx
 exact h4 _ (fun ad n c e _=>by cases e)
theorem sb_l(tx:ByteArray):(tx.data.toList.map fun b=>Value.int .u8 (b.toNat:Int))=(sb tx).flatMap c8:=sb_cells tx
theorem enc_fit(l:List W8)(k:Int):SX.Sh.fit (.tp [.sl 1,.one]) (.tuple #[.agg (l.flatMap c8).toArray,.int .i64 k])=true:=by
 have h2:(l.flatMap c8).all (·.oneCell')=true:=by
  rw [List.all_eq_true]
  intro u hu
  obtain⟨a,_,h⟩:=List.mem_flatMap.1 hu
  exact c8o a u h
 have h1:(l.flatMap c8).length % 1=0:=Nat.mod_one _
 simp only [SX.Sh.fit,SX.Sh.fitL,h1,h2]
 rfl
inductive Anyv where
 | n (k:Int)
 | s (A:Option Addr) (n c:Nat) (tx:ByteArray)
def cellsAn:Anyv→List Value
 | .n k=>[.iface 3 (.int .i64 k)]
 | .s A n c _=>[.iface 57 (.slice A n c)]
def flOf:Anyv→Fl
 | .n k=>.n k
 | .s _ _ _ tx=>.s tx
theorem cellsAn_len(z:Anyv):(cellsAn z).length=1:=by cases z<;>rfl
def anL(l:List Anyv):List Value:=l.flatMap cellsAn
theorem anL_len(l:List Anyv):(anL l).length=l.length:=by have:=SX.flat_len (f:=cellsAn) cellsAn_len l;rw [Nat.mul_one]at this;exact this
def RS1(K:Value→Nat→List Value→Prop)(f:FuncId)(xs:List SX.Arg)(v:Value):Prop:=f=61∧∃ (hdr:Value) (fl:List Fl),xs=[⟨.agg #[.int .i64 3,.int .i64 0,.string ⟨#[]⟩,hdr],0,[]⟩]∧K hdr 4 (flL fl)∧fl.length≤1048576∧(∀ z∈fl,z.fits)∧v=.tuple #[.agg ((encL fl).flatMap c8).toArray,.int .i64 0]
def shpS1:FuncId→Option SX.Sh:=fun f=>if f=61 then some (.tp [.sl 1,.one])else none
noncomputable def cxS1(K A:Value→Nat→List Value→Prop):SX.Cx:={ P:=Tryd.prog,R:=RS1,shp:=shpS1,K:=K,A:=A,trm:=true }
theorem encode_calls{K:Value→Nat→List Value→Prop}{xs:List SX.Arg}{v:Value}{W:World}{hdr:Value}{fl:List Fl}(hx:xs=[⟨.agg #[.int .i64 3,.int .i64 0,.string ⟨#[]⟩,hdr],0,[]⟩])(hk:SX.Arg.rd W ⟨hdr,4,flL fl⟩)(hl:fl.length≤1048576)(hf:∀ z∈fl,z.fits) :
 Calls Tryd.prog 61 (xs.map SX.Arg.v).toArray W fun e w'=>Below W.heap.size W w'∧∃ hdr,e=.returned (.tuple #[hdr,.int .i64 0])∧SX.SlRet W w' [] hdr 1 ((encL fl).flatMap c8):=by
 subst hx
 obtain⟨A,n,c,rfl,h2,h3,h4⟩:=fl_arg hk
 exact encode_any fl A n c W h2 (by omega) h3 hf
theorem okS1(K A:Value→Nat→List Value→Prop):(cxS1 K A).Ok:=by
 refine SX.Cx.ok_of (fun _=>rfl) ?_
 intro K f xs v W hR hrd hKf
 obtain⟨rfl,hdr,fl,hx,hk,hl,hf,rfl⟩:=hR
 exact Calls.mono (encode_calls (K:=K) (v:=undef) hx (hKf _ _ _ hk) hl hf) fun e w' h=>SX.SlRet.ok0 rfl h
def args_slist:List SX.V:=[.x 0 []]
def tree_slist:SX.Tree :=
(.df (.len false) [(.q 0)] .one
(.loop [(.i 0),(.cat [])] [.one,.any]
(.df (.bin .lss 3) [(.q 2),(.q 1)] .one
(.br 4 []
(.df .bnd [(.q 0),(.q 2)] .one
(.df (.elem 1 0) [(.q 0),(.q 2)] .one
(.df (.tya 3) [(.q 6)] (.tp [.one,.one])
(.br 7 [1]
(.df (.app 4 56 (.own 4 [(.i 1),(.x 7 [0]),(.k (.string ⟨#[]⟩)),(.k (.slice none 0 0))])) [(.cat [(.q 3)]),(.sl 4 0 1 1)] .any
(.df (.bin .add 3) [(.q 2),(.i 1)] .one
(.again 0 [(.q 9),(.cat [(.q 3),(.q 8)])])))
(.df (.tya 57) [(.q 6)] (.tp [.one,.one])
(.br 8 [1]
(.df .b2sx [(.x 8 [0])] .one
(.df (.app 4 56 (.own 4 [(.i 2),(.i 0),(.q 9),(.k (.slice none 0 0))])) [(.cat [(.q 3)]),(.sl 4 0 1 1)] .any
(.df (.bin .add 3) [(.q 2),(.i 1)] .one
(.again 0 [(.q 11),(.cat [(.q 3),(.q 10)])]))))
(.df (.bin .add 3) [(.q 2),(.i 1)] .one
(.again 0 [(.q 9),(.cat [(.q 3)])]))))))))
(.df (.callg 61 [.no] [(.row 4 [(.q 3)])]) [(.a [(.i 3),(.i 0),(.k (.string ⟨#[]⟩)),(.row 3)]),(.row 3)] (.tp [(.sl 1),.one])
(.ret (.row 4) [none,none,none,none,(some ⟨[(.x 5 [0])],0,(.ext 1)⟩)] []))))))
set_option maxRecDepth 100000 in
theorem run_slist(K A:Value→Nat→List Value→Prop):(SX.run (cxS1 K A) ⟨fun f=>true,[⟨43,3,[(.s 13,.one),(.c 0 3,.row 4 99)]⟩],2,100⟩ 100000 0 (SX.door 43 Tryd.f43 args_slist [.one]) [.code (Tryd.f43.body.getD .skip),.top Tryd.f43]).strip=tree_slist:=by kernel_rfl
def KSl(A:Option Addr)(n c:Nat)(fs:List Anyv)(s:Value)(sz:Nat)(cells:List Value):Prop:=(s=.slice A n c∧sz=1∧cells=anL fs)∨∃ B m d tx,Anyv.s B m d tx∈fs∧s=.slice B m d∧sz=1∧cells=(sb tx).flatMap c8
set_option maxRecDepth 100000 in
set_option maxHeartbeats 4000000 in
theorem slist_any(fs:List Anyv)(A:Option Addr)(n c:Nat)(w:World)(hr:Rd w 1 A n (anL fs))(hn:n≤1048576)(hc:n≤c)(htx:∀ B m d tx,Anyv.s B m d tx∈fs→Rd w 1 B m ((sb tx).flatMap c8)∧m≤d)(hfit:∀ z∈fs,(flOf z).fits) :
 Calls Tryd.prog 43 #[.slice A n c] w fun e w'=>Below w.heap.size w w'∧∃ hdr,e=.returned hdr∧SX.SlRet w w' [] hdr 1 ((encL (fs.map flOf)).flatMap c8):=by
 refine SX.calls_of_run (C:=cxS1 (KSl A n c fs) (fun _ _ _=>False)) (G:=⟨fun f=>true,[⟨43,3,[(.s 13,.one),(.c 0 3,.row 4 99)]⟩],2,100⟩) (args:=args_slist) (sh:=[.one]) (ρ:=[.slice A n c]) 100000 tree_slist (okS1 _ _) Tryd.func43 rfl (run_slist _ _) (by kernel_rfl) (by kernel_rfl) (by kernel_rfl) ?_ ?_
 ·rintro W hW s sz cells (⟨rfl,rfl,rfl⟩|⟨B,m,d,tx,hm,rfl,rfl,rfl⟩)
  ·exact⟨hr.same0 hW,hc⟩
  exact⟨(htx B m d tx hm).1.same0 hW,(htx B m d tx hm).2⟩
 have hA:=SX.rd_some hr
 have hln:fs.length=n:=by have:=hr.1;rw [anL_len]at this;omega
 have k1:KSl A n c fs (.slice A n c) 1 (anL fs):=.inl ⟨rfl,rfl,rfl⟩
 unfold tree_slist
 refine SX.D (.int .i64 (n:Int)) ?_
 refine SX.VC_loop (fun xs=>∃ (i:Nat),xs=[.int .i64 (i:Int),.agg (flL ((fs.take i).map flOf)).toArray]∧i≤n) (fun xs=>match xs with|.int _ i::_=>n-i.toNat|_=>0) (fun α=>⟨0,Eq.trans (b:=[.int .i64 0,.agg #[]]) (by kernel_rfl) (by simp [flL]),by omega⟩) ?_
 rintro xs-⟨i,rfl,hin⟩
 have hml:((fs.take i).map flOf).length≤n:=by rw [List.length_map,List.length_take];omega
 refine SX.D (.bool (decide ((i:Int)<(n:Int)))) ?_
 refine SX.B (decide ((i:Int)<(n:Int))) (fun h4=>?_) (fun h4=>?_)
 ·have h4:i<n:=by have:=of_decide_eq_true h4;omega
  obtain⟨z,hz⟩:∃ z,fs[i]?=some z:=⟨_,List.getElem?_eq_getElem (by omega)⟩
  have hzm:=List.mem_of_getElem? hz
  have htk:flL ((fs.take (i+1)).map flOf)=flL ((fs.take i).map flOf)++cellsFl (flOf z):=by rw [List.take_add_one,hz];simp [flL]
  refine SX.E (.bool true) (fun α=>SX.extBnd (A:=A) (n:=n) (c:=c) (j:=i) hA (by kernel_rfl) (by kernel_rfl) h4) ?_
  cases z with
  | n k =>
   refine SX.E (.iface 3 (.int .i64 k)) (fun α=>SX.extElem (o:=0) (v:=.iface 3 (.int .i64 k)) (f:=cellsAn) (l:=fs) (A:=A) (n:=n) (c:=c) (j:=i) (z:=.n k) cellsAn_len hA (by kernel_rfl) (by kernel_rfl) h4 k1 hz (by decide) rfl) ?_
   refine SX.E (.tuple #[.int .i64 k,.bool true]) (fun α=>⟨3,.int .i64 k,.int .i64 0,by kernel_rfl,by kernel_rfl,rfl⟩) ?_
   refine SX.B true (fun _=>?_) (fun h=>nomatch h)
   refine SX.E (Value.agg (([Fl.n k]).flatMap cellsFl).toArray) (fun α=>SX.app_rel (f:=cellsFl) (l1:=(fs.take i).map flOf) (l2:=[Fl.n k]) cellsFl_len cellsFl_one (by decide) (SX.cat1 (by kernel_rfl)) (SX.src_own (by kernel_rfl)) (by simp only [LL];omega) (by simp only [LL];omega)) ?_
   refine SX.E (.int .i64 ((i+1:Nat):Int)) (fun α=>SX.W1 i) ?_
   exact SX.VC_again fun α=>⟨⟨i+1,Eq.trans (b:=[.int .i64 ((i+1:Nat):Int),.agg ([Value.agg (flL ((fs.take i).map flOf)).toArray,Value.agg (([Fl.n k]).flatMap cellsFl).toArray].flatMap SX.cellsV).toArray]) (by kernel_rfl) (by rw [htk];simp [SX.cellsV,flOf]),by omega⟩,cast (by kernel_rfl) (show n-((i+1:Nat):Int).toNat<n-(i:Int).toNat by omega)⟩
  | s B m d tx =>
   refine SX.E (.iface 57 (.slice B m d)) (fun α=>SX.extElem (o:=0) (v:=.iface 57 (.slice B m d)) (f:=cellsAn) (l:=fs) (A:=A) (n:=n) (c:=c) (j:=i) (z:=.s B m d tx) cellsAn_len hA (by kernel_rfl) (by kernel_rfl) h4 k1 hz (by decide) rfl) ?_
   refine SX.E (.tuple #[.int .i64 0,.bool false]) (fun α=>⟨57,.slice B m d,.int .i64 0,by kernel_rfl,by kernel_rfl,rfl⟩) ?_
   refine SX.B false (fun h=>nomatch h) (fun _=>?_)
   refine SX.E (.tuple #[.slice B m d,.bool true]) (fun α=>⟨57,.slice B m d,.slice none 0 0,by kernel_rfl,by kernel_rfl,rfl⟩) ?_
   refine SX.B true (fun _=>?_) (fun h=>nomatch h)
   refine SX.E (.string tx) (fun α=>⟨tx.data.toList,B,m,d,cast (by kernel_rfl) (show KSl A n c fs (.slice B m d) 1 (tx.data.toList.map fun b=>Value.int .u8 (b.toNat:Int)) from by rw [sb_l];exact .inr ⟨B,m,d,tx,hzm,rfl,rfl,rfl⟩),by kernel_rfl,by simp⟩) ?_
   refine SX.E (Value.agg (([Fl.s tx]).flatMap cellsFl).toArray) (fun α=>SX.app_rel (f:=cellsFl) (l1:=(fs.take i).map flOf) (l2:=[Fl.s tx]) cellsFl_len cellsFl_one (by decide) (SX.cat1 (by kernel_rfl)) (SX.src_own (by kernel_rfl)) (by simp only [LL];omega) (by simp only [LL];omega)) ?_
   refine SX.E (.int .i64 ((i+1:Nat):Int)) (fun α=>SX.W1 i) ?_
   exact SX.VC_again fun α=>⟨⟨i+1,Eq.trans (b:=[.int .i64 ((i+1:Nat):Int),.agg ([Value.agg (flL ((fs.take i).map flOf)).toArray,Value.agg (([Fl.s tx]).flatMap cellsFl).toArray].flatMap SX.cellsV).toArray]) (by kernel_rfl) (by rw [htk];simp [SX.cellsV,flOf]),by omega⟩,cast (by kernel_rfl) (show n-((i+1:Nat):Int).toNat<n-(i:Int).toNat by omega)⟩
 have h4:i=n:=by have:=of_decide_eq_false h4;omega
 have htk:fs.take i=fs:=List.take_of_length_le (by omega)
 rw [htk]at hml
 refine SX.VC_df (.tuple #[.agg ((encL (fs.map flOf)).flatMap c8).toArray,.int .i64 0]) (fun α=>⟨[⟨.agg #[.int .i64 3,.int .i64 0,.string ⟨#[]⟩,(α 3).h],0,[]⟩],[⟨(α 3).h,4,flL (fs.map flOf)⟩],⟨by kernel_rfl,by kernel_rfl,trivial⟩,⟨Eq.trans (b:=(⟨(α 3).h,4,[Value.agg (flL ((fs.take i).map flOf)).toArray].flatMap SX.cellsV⟩:SX.Arg)) (by rw [htk];simp [SX.cellsV]) (by kernel_rfl),trivial⟩,⟨rfl,(α 3).h,fs.map flOf,rfl,.inr (by simp),by omega,fun z hz=>by obtain⟨y,hy,rfl⟩:=List.mem_map.1 hz;exact hfit y hy,rfl⟩,SX.noAli rfl⟩) (enc_fit _ _) ?_
 exact SX.VC_ret fun α W _ hR hS=>⟨hS.below,(α 4).h,by kernel_rfl,SX.SlRet.ext0 hS (n:=4) (b:=(⟨[(.x 5 [0])],0,(.ext 1)⟩:SX.Blk)) (by kernel_rfl) rfl (hR 4 _ (by kernel_rfl)) (Eq.trans (b:=[Value.agg ((encL (fs.map flOf)).flatMap c8).toArray].flatMap SX.cellsV) (by kernel_rfl) (by simp [SX.cellsV])) (fun W2 s z xs hk=>nomatch hk) (fun B s z xs hk=>nomatch hk)⟩
def TagR(K:Value→Nat→List Value→Prop)(f:FuncId)(xs:List SX.Arg)(v:Value):Prop:=f=49∧LaidK K∧∃ (s:ByteArray) (u:Value) (l:List W8),xs=[⟨.string s,0,[]⟩,⟨u,1,l.flatMap c8⟩]∧s.size<2 ^ 60∧l.length<2 ^ 44∧v=.agg ((tagE (sb s) l).flatMap c8).toArray
theorem tagR_calls{K:Value→Nat→List Value→Prop}{f:FuncId}{xs:List SX.Arg}{v:Value}{W:World}(h:TagR K f xs v)(hrd:∀ x∈xs,x.rd W)(hK:∀ s sz cells,K s sz cells→SX.Arg.rd W ⟨s,sz,cells⟩):Calls Tryd.prog f (xs.map SX.Arg.v).toArray W fun e w'=>e=.returned v∧Below W.heap.size W w':=by
 obtain⟨rfl,hL,s,u,l,rfl,h60,h44,rfl⟩:=h
 obtain⟨A,n,c,rfl,hr,hc,hn⟩:=byte_arg (hrd ⟨u,1,l.flatMap c8⟩ (by simp))
 exact tagged_any s l h60 h44 A n c W hr hc (laid_of hL hK)
def hashN(d:List W8):Nat:=(((((((((d.getD 0 0).toNat % 128)*256+(d.getD 1 0).toNat)*256+(d.getD 2 0).toNat)*256+(d.getD 3 0).toNat)*256+(d.getD 4 0).toNat)*256+(d.getD 5 0).toNat)*256+(d.getD 6 0).toNat)*256+(d.getD 7 0).toNat) % 1073741789
theorem wrap_b64(n:Nat)(h:n<2 ^ 63):IntKind.i64.wrap (n:Int)=(n:Int):=wrap_i64 (by omega) (by omega)
theorem or_nat(n d:Nat)(h:n*256+d<2 ^ 63)(hd:d<256):SX.binV .or (.int .i64 ((n*256:Nat):Int)) (.int .i64 (d:Int))=some (.int .i64 ((n*256+d:Nat):Int)):=by
 simp only [SX.binV,if_true]
 show some (Value.int .i64 (IntKind.i64.wrap ((BitVec.ofInt 64 ((n*256:Nat):Int)|||BitVec.ofInt 64 (d:Int):BitVec 64).toNat:Int)))=_
 have e:∀ m:Nat,(BitVec.ofInt 64 (m:Int))=BitVec.ofNat 64 m:=fun m=>by apply BitVec.eq_of_toNat_eq;simp
 have m1:n*256 % 2 ^ 64=n*256:=by omega
 have m2:d % 2 ^ 64=d:=by omega
 rw [e,e,BitVec.toNat_or,BitVec.toNat_ofNat,BitVec.toNat_ofNat,m1,m2]
 have e2:n*256|||d=n*256+d:=by
  rw [show n*256=n<<<8 by rw [Nat.shiftLeft_eq],Nat.shiftLeft_add_eq_or_of_lt (show d<2 ^ 8 by omega)]
 rw [e2,wrap_b64 _ h]
theorem or_zero(d:Nat)(h:d<2 ^ 63):SX.binV .or (.int .i64 0) (.int .i64 (d:Int))=some (.int .i64 (d:Int)):=by
 simp only [SX.binV,if_true]
 show some (Value.int .i64 (IntKind.i64.wrap ((BitVec.ofInt 64 0|||BitVec.ofInt 64 (d:Int):BitVec 64).toNat:Int)))=_
 have e:(BitVec.ofInt 64 (d:Int))=BitVec.ofNat 64 d:=by apply BitVec.eq_of_toNat_eq;simp
 rw [e,show(BitVec.ofInt 64 0)=0#64 from rfl,BitVec.zero_or,BitVec.toNat_ofNat,show d % 2 ^ 64=d by omega,wrap_b64 _ h]
theorem shl8_nat(n:Nat)(h:n*256<2 ^ 63):SX.binV .shl (.int .i64 (n:Int)) (.int .u64 8)=some (.int .i64 ((n*256:Nat):Int)):=by
 show some (Value.int .i64 (IntKind.i64.wrap ((n:Int)*2 ^ 8)))=_
 rw [show((n:Int)*2 ^ 8)=((n*256:Nat):Int) by omega,wrap_b64 _ h]
theorem and127(d:W8):SX.binV .and (w8 d) (.int .u8 127)=some (w8 (BitVec.ofNat 8 (d.toNat % 128))):=by
 have h:(BitVec.ofInt 8 (d.toNat:Int))=d:=by apply BitVec.eq_of_toNat_eq;simp
 simp only [SX.binV,w8,if_true]
 show some (Value.int .u8 (IntKind.u8.wrap ((BitVec.ofInt 8 (d.toNat:Int)&&&BitVec.ofInt 8 127:BitVec 8).toNat:Int)))=_
 rw [h,wrap_u8]
 have e:(d&&&BitVec.ofInt 8 127).toNat=d.toNat % 128:=by
  rw [BitVec.toNat_and,show(BitVec.ofInt 8 127).toNat=2 ^ 7-1 from rfl,Nat.and_two_pow_sub_one_eq_mod]
 rw [e]
theorem conv_w8(d:W8):SX.convV .i64 (w8 d)=some (.int .i64 ((d.toNat:Nat):Int)):=by
 simp only [SX.convV,w8]
 rw [wrap_b64 _ (by have:=d.isLt;omega)]
theorem remQ(a:Nat):SX.binV .rem (.int .i64 (a:Int)) (.int .i64 1073741789)=some (.int .i64 ((a % 1073741789:Nat):Int)):=SX.rem_nat (b:=1073741789) (by omega)
theorem ofNat128(d:W8):(BitVec.ofNat 8 (d.toNat % 128)).toNat=d.toNat % 128:=by
 rw [BitVec.toNat_ofNat];omega
noncomputable def cxH(K A:Value→Nat→List Value→Prop):SX.Cx:={ P:=Tryd.prog,R:=TagR,shp:=fun f=>if f=49 then some (.ag 32)else none,K:=K,A:=A,arr:=true,trm:=true }
theorem cxH_ok(K A:Value→Nat→List Value→Prop):(cxH K A).Ok:=SX.Cx.ok_of (fun _=>rfl) fun _ f xs v W h hrd hK=>by
 have hf:=h.1
 exact(tagR_calls h hrd hK).mono fun e w' h=>SX.plainOk (by subst hf;rfl) h
def args_hash:List SX.V:=[.x 0 [],.x 1 []]
def tree_hash:SX.Tree :=
(.df (.call 49 [.no,(.ext 1)]) [(.q 0),(.q 1)] (.ag 32)
(.df (.bin .and 5) [(.x 2 [0]),(.k (.int .u8 127))] .one
(.df (.conv .i64) [(.q 3)] .one
(.df (.bin .or 3) [(.i 0),(.q 4)] .one
(.df (.bin .shl 3) [(.q 5),(.k (.int .u64 8))] .one
(.df (.conv .i64) [(.x 2 [1])] .one
(.df (.bin .or 3) [(.q 6),(.q 7)] .one
(.df (.bin .shl 3) [(.q 8),(.k (.int .u64 8))] .one
(.df (.conv .i64) [(.x 2 [2])] .one
(.df (.bin .or 3) [(.q 9),(.q 10)] .one
(.df (.bin .shl 3) [(.q 11),(.k (.int .u64 8))] .one
(.df (.conv .i64) [(.x 2 [3])] .one
(.df (.bin .or 3) [(.q 12),(.q 13)] .one
(.df (.bin .shl 3) [(.q 14),(.k (.int .u64 8))] .one
(.df (.conv .i64) [(.x 2 [4])] .one
(.df (.bin .or 3) [(.q 15),(.q 16)] .one
(.df (.bin .shl 3) [(.q 17),(.k (.int .u64 8))] .one
(.df (.conv .i64) [(.x 2 [5])] .one
(.df (.bin .or 3) [(.q 18),(.q 19)] .one
(.df (.bin .shl 3) [(.q 20),(.k (.int .u64 8))] .one
(.df (.conv .i64) [(.x 2 [6])] .one
(.df (.bin .or 3) [(.q 21),(.q 22)] .one
(.df (.bin .shl 3) [(.q 23),(.k (.int .u64 8))] .one
(.df (.conv .i64) [(.x 2 [7])] .one
(.df (.bin .or 3) [(.q 24),(.q 25)] .one
(.df (.bin .rem 3) [(.q 26),(.i 1073741789)] .one
(.ret (.q 27) [] [])))))))))))))))))))))))))))
set_option maxRecDepth 100000 in
theorem run_hash(K A:Value→Nat→List Value→Prop):(SX.run (cxH K A) ⟨fun _=>true,[],0,100⟩ 100000 0 (SX.door 42 Tryd.f42 args_hash [.one,.one]) [.code (Tryd.f42.body.getD .skip),.top Tryd.f42]).strip=tree_hash:=by kernel_rfl
set_option maxRecDepth 100000 in
set_option maxHeartbeats 4000000 in
theorem hash_any(s:ByteArray)(l:List W8)(hs:s.size<2 ^ 60)(hl:l.length<2 ^ 44)(A:Option Addr)(n c:Nat)(w:World)(hr:Rd w 1 A n (l.flatMap c8))(hc:n≤c)(hlaid:Laid w):Calls Tryd.prog 42 #[.string s,.slice A n c] w fun e w'=>e=.returned (.int .i64 (hashN (tagE (sb s) l):Int))∧Below w.heap.size w w':=by
 refine SX.calls_of_run (C:=cxH (KS A n c l) (KS A n c l)) (G:=⟨fun _=>true,[],0,100⟩) (args:=args_hash) (sh:=[.one,.one]) (ρ:=[.string s,.slice A n c]) 100000 tree_hash (cxH_ok _ _) Tryd.func42 rfl (cast (by kernel_rfl) (run_hash (KS A n c l) (KS A n c l))) (by kernel_rfl) (by kernel_rfl) (by kernel_rfl) ?_ ?_
 ·rintro W hW v z xs (⟨rfl,rfl,rfl⟩|⟨rfl,rfl,rfl⟩|⟨rfl,rfl,rfl⟩)
  ·exact⟨hr.same0 hW,hc⟩
  ·exact⟨hlaid.1.same0 hW,Nat.le_refl _⟩
  exact⟨hlaid.2.same0 hW,Nat.le_refl _⟩
 have hL:LaidK (KS A n c l):=⟨.inr (.inl ⟨rfl,rfl,rfl⟩),.inr (.inr ⟨rfl,rfl,rfl⟩)⟩
 have hin:(KS A n c l) (.slice A n c) 1 (l.flatMap c8):=.inl ⟨rfl,rfl,rfl⟩
 unfold tree_hash
 obtain⟨g,hg⟩:=listN (n:=32) (tagE (sb s) l) rfl
 refine SX.E (.agg (((List.range 32).map g).flatMap c8).toArray) (fun α=>by rw [← hg];exact⟨[⟨.string s,0,[]⟩,⟨.slice A n c,1,l.flatMap c8⟩],⟨by kernel_rfl,by kernel_rfl,by kernel_rfl,by kernel_rfl,cast (by kernel_rfl) hin,trivial⟩,⟨rfl,hL,s,_,l,rfl,hs,hl,rfl⟩,SX.noAli rfl⟩) ?_
 have l0:=(g 0).isLt
 have l1:=(g 1).isLt
 have l2:=(g 2).isLt
 have l3:=(g 3).isLt
 have l4:=(g 4).isLt
 have l5:=(g 5).isLt
 have l6:=(g 6).isLt
 have l7:=(g 7).isLt
 obtain⟨n0,hn0⟩:∃ z,z=(g 0).toNat % 128:=⟨_,rfl⟩
 obtain⟨n1,hn1⟩:∃ z,z=n0*256+(g 1).toNat:=⟨_,rfl⟩
 obtain⟨n2,hn2⟩:∃ z,z=n1*256+(g 2).toNat:=⟨_,rfl⟩
 obtain⟨n3,hn3⟩:∃ z,z=n2*256+(g 3).toNat:=⟨_,rfl⟩
 obtain⟨n4,hn4⟩:∃ z,z=n3*256+(g 4).toNat:=⟨_,rfl⟩
 obtain⟨n5,hn5⟩:∃ z,z=n4*256+(g 5).toNat:=⟨_,rfl⟩
 obtain⟨n6,hn6⟩:∃ z,z=n5*256+(g 6).toNat:=⟨_,rfl⟩
 obtain⟨n7,hn7⟩:∃ z,z=n6*256+(g 7).toNat:=⟨_,rfl⟩
 refine SX.E (w8 (BitVec.ofNat 8 ((g 0).toNat % 128))) (fun α=>cast (by kernel_rfl) (and127 (g 0))) ?_
 refine SX.E (.int .i64 (n0:Int)) (fun α=>cast (by kernel_rfl) (show SX.convV .i64 (w8 (BitVec.ofNat 8 ((g 0).toNat % 128)))=some (.int .i64 (n0:Int)) from by rw [conv_w8,ofNat128,hn0])) ?_
 refine SX.E (.int .i64 (n0:Int)) (fun α=>cast (by kernel_rfl) (or_zero n0 (by omega))) ?_
 refine SX.E (.int .i64 ((n0*256:Nat):Int)) (fun α=>cast (by kernel_rfl) (shl8_nat n0 (by omega))) ?_
 refine SX.E (.int .i64 ((g 1).toNat:Int)) (fun α=>cast (by kernel_rfl) (conv_w8 (g 1))) ?_
 refine SX.E (.int .i64 (n1:Int)) (fun α=>cast (by kernel_rfl) (show SX.binV .or (.int .i64 ((n0*256:Nat):Int)) (.int .i64 ((g 1).toNat:Int))=some (.int .i64 (n1:Int)) from by rw [or_nat n0 (g 1).toNat (by omega) (by omega),hn1])) ?_
 refine SX.E (.int .i64 ((n1*256:Nat):Int)) (fun α=>cast (by kernel_rfl) (shl8_nat n1 (by omega))) ?_
 refine SX.E (.int .i64 ((g 2).toNat:Int)) (fun α=>cast (by kernel_rfl) (conv_w8 (g 2))) ?_
 refine SX.E (.int .i64 (n2:Int)) (fun α=>cast (by kernel_rfl) (show SX.binV .or (.int .i64 ((n1*256:Nat):Int)) (.int .i64 ((g 2).toNat:Int))=some (.int .i64 (n2:Int)) from by rw [or_nat n1 (g 2).toNat (by omega) (by omega),hn2])) ?_
 refine SX.E (.int .i64 ((n2*256:Nat):Int)) (fun α=>cast (by kernel_rfl) (shl8_nat n2 (by omega))) ?_
 refine SX.E (.int .i64 ((g 3).toNat:Int)) (fun α=>cast (by kernel_rfl) (conv_w8 (g 3))) ?_
 refine SX.E (.int .i64 (n3:Int)) (fun α=>cast (by kernel_rfl) (show SX.binV .or (.int .i64 ((n2*256:Nat):Int)) (.int .i64 ((g 3).toNat:Int))=some (.int .i64 (n3:Int)) from by rw [or_nat n2 (g 3).toNat (by omega) (by omega),hn3])) ?_
 refine SX.E (.int .i64 ((n3*256:Nat):Int)) (fun α=>cast (by kernel_rfl) (shl8_nat n3 (by omega))) ?_
 refine SX.E (.int .i64 ((g 4).toNat:Int)) (fun α=>cast (by kernel_rfl) (conv_w8 (g 4))) ?_
 refine SX.E (.int .i64 (n4:Int)) (fun α=>cast (by kernel_rfl) (show SX.binV .or (.int .i64 ((n3*256:Nat):Int)) (.int .i64 ((g 4).toNat:Int))=some (.int .i64 (n4:Int)) from by rw [or_nat n3 (g 4).toNat (by omega) (by omega),hn4])) ?_
 refine SX.E (.int .i64 ((n4*256:Nat):Int)) (fun α=>cast (by kernel_rfl) (shl8_nat n4 (by omega))) ?_
 refine SX.E (.int .i64 ((g 5).toNat:Int)) (fun α=>cast (by kernel_rfl) (conv_w8 (g 5))) ?_
 refine SX.E (.int .i64 (n5:Int)) (fun α=>cast (by kernel_rfl) (show SX.binV .or (.int .i64 ((n4*256:Nat):Int)) (.int .i64 ((g 5).toNat:Int))=some (.int .i64 (n5:Int)) from by rw [or_nat n4 (g 5).toNat (by omega) (by omega),hn5])) ?_
 refine SX.E (.int .i64 ((n5*256:Nat):Int)) (fun α=>cast (by kernel_rfl) (shl8_nat n5 (by omega))) ?_
 refine SX.E (.int .i64 ((g 6).toNat:Int)) (fun α=>cast (by kernel_rfl) (conv_w8 (g 6))) ?_
 refine SX.E (.int .i64 (n6:Int)) (fun α=>cast (by kernel_rfl) (show SX.binV .or (.int .i64 ((n5*256:Nat):Int)) (.int .i64 ((g 6).toNat:Int))=some (.int .i64 (n6:Int)) from by rw [or_nat n5 (g 6).toNat (by omega) (by omega),hn6])) ?_
 refine SX.E (.int .i64 ((n6*256:Nat):Int)) (fun α=>cast (by kernel_rfl) (shl8_nat n6 (by omega))) ?_
 refine SX.E (.int .i64 ((g 7).toNat:Int)) (fun α=>cast (by kernel_rfl) (conv_w8 (g 7))) ?_
 refine SX.E (.int .i64 (n7:Int)) (fun α=>cast (by kernel_rfl) (show SX.binV .or (.int .i64 ((n6*256:Nat):Int)) (.int .i64 ((g 7).toNat:Int))=some (.int .i64 (n7:Int)) from by rw [or_nat n6 (g 7).toNat (by omega) (by omega),hn7])) ?_
 refine SX.E (.int .i64 ((n7 % 1073741789:Nat):Int)) (fun α=>cast (by kernel_rfl) (remQ n7)) ?_
 have hN:hashN (tagE (sb s) l)=n7 % 1073741789:=by rw [hg];subst hn7 hn6 hn5 hn4 hn3 hn2 hn1 hn0;rfl
 exact SX.VC_ret fun α W _ _ hS=>SX.ret_of (x:=.int .i64 ((n7 % 1073741789:Nat):Int)) hS (by kernel_rfl) (by rw [hN])
def HashR(K:Value→Nat→List Value→Prop)(f:FuncId)(xs:List SX.Arg)(v:Value):Prop:=f=42∧LaidK K∧∃ (s:ByteArray) (u:Value) (l:List W8),xs=[⟨.string s,0,[]⟩,⟨u,1,l.flatMap c8⟩]∧s.size<2 ^ 60∧l.length<2 ^ 44∧v=.int .i64 (hashN (tagE (sb s) l):Int)
theorem hashR_calls{K:Value→Nat→List Value→Prop}{f:FuncId}{xs:List SX.Arg}{v:Value}{W:World}(h:HashR K f xs v)(hrd:∀ x∈xs,x.rd W)(hK:∀ s sz cells,K s sz cells→SX.Arg.rd W ⟨s,sz,cells⟩):Calls Tryd.prog f (xs.map SX.Arg.v).toArray W fun e w'=>e=.returned v∧Below W.heap.size W w':=by
 obtain⟨rfl,hL,s,u,l,rfl,h60,h44,rfl⟩:=h
 obtain⟨A,n,c,rfl,hr,hc,hn⟩:=byte_arg (hrd ⟨u,1,l.flatMap c8⟩ (by simp))
 exact hash_any s l h60 h44 A n c W hr hc (laid_of hL hK)
end Go.Proofs.YtidekfgkpindbaaDoor
namespace Go.Proofs.YtidekfgkpindbaaDoor.Jac
def isum(f:Nat→Nat):Nat→Nat
 | 0=>0
 | h+1=>isum f h+f (h+1)
theorem isum_congr{f g:Nat→Nat}:∀ h,(∀ k,1≤k→k≤h→f k=g k)→isum f h=isum g h
 | 0,_=>rfl
 | h+1,H=>by
  simp only [isum]
  rw [isum_congr h (fun k a b=>H k a (by omega)),H (h+1) (by omega) (by omega)]
theorem isum_add(f g:Nat→Nat):∀ h,isum (fun k=>f k+g k) h=isum f h+isum g h
 | 0=>rfl
 | h+1=>by simp only [isum,isum_add f g h];omega
theorem isum_const(c:Nat):∀ h,isum (fun _=>c) h=c*h
 | 0=>rfl
 | h+1=>by simp only [isum,isum_const c h];rw [Nat.mul_succ]
theorem isum_swap(f:Nat→Nat→Nat)(g:Nat):∀ h,isum (fun k=>isum (fun j=>f k j) g) h=isum (fun j=>isum (fun k=>f k j) h) g
 | 0=>by simp only [isum];rw [isum_const];omega
 | h+1=>by simp only [isum];rw [isum_swap f g h,← isum_add]
theorem isum_parity{f g:Nat→Nat}:∀ h,(∀ k,1≤k→k≤h→f k % 2=g k % 2)→isum f h % 2=isum g h % 2
 | 0,_=>rfl
 | h+1,H=>by
  simp only [isum]
  have a:=isum_parity h (fun k a b=>H k a (by omega))
  have b:=H (h+1) (by omega) (by omega)
  omega
theorem isum_eq(f:Nat→Nat):∀ h,isum f h=((List.range' 1 h).map f).sum
 | 0=>rfl
 | h+1=>by rw [List.range'_concat];simp [isum,isum_eq f h,Nat.add_comm]
theorem isum_le(q:Nat):∀ g,q≤g→isum (fun j=>if j≤q then 1 else 0) g=q
 | 0,h=>by simp only [isum];omega
 | g+1,h=>by
  simp only [isum]
  by_cases e:q=g+1
  ·subst e
   rw [isum_congr (g:=fun _=>1) g (fun k _ b=>if_pos (by omega)),isum_const,if_pos (Nat.le_refl _)];omega
  rw [isum_le q g (by omega),if_neg (by omega),Nat.add_zero]
theorem perm_of_subset{l₁:List Nat}:∀ {l₂:List Nat},l₁.Nodup→(∀ x,x∈l₁→x∈l₂)→l₂.length≤l₁.length→l₁.Perm l₂:=by
 induction l₁ with
 | nil=>intro l₂ _ _ h;have:l₂=[]:=List.length_eq_zero_iff.1 (Nat.le_zero.1 h);subst this;exact List.Perm.refl _
 | cons a t ih =>
  intro l₂ hn hs hl
  rw [List.nodup_cons]at hn
  have ha:=hs a (List.mem_cons_self ..)
  have hp:=List.perm_cons_erase ha
  refine List.Perm.trans ?_ hp.symm
  refine List.Perm.cons a (ih hn.2 ?_ ?_)
  ·intro x hx
   refine(List.mem_erase_of_ne ?_).2 (hs x (List.mem_cons_of_mem _ hx))
   intro e;subst e;exact hn.1 hx
  rw [List.length_erase_of_mem ha];simp only [List.length_cons]at hl;omega
theorem perm_map{f:Nat→Nat}{h:Nat}(hin:∀ k,1≤k→k≤h→1≤f k∧f k≤h)
 (hinj:∀ k j,1≤k→k≤h→1≤j→j≤h→f k=f j→k=j):((List.range' 1 h).map f).Perm (List.range' 1 h):=by
 refine perm_of_subset ?_ ?_ (by simp)
 ·rw [List.Nodup,List.pairwise_map]
  refine List.Pairwise.imp_of_mem ?_ (List.nodup_range' (s:=1) (n:=h) 1)
  intro a b ha hb hne e
  simp only [List.mem_range'_1]at ha hb
  exact hne (hinj a b ha.1 (by omega) hb.1 (by omega) e)
 intro x hx
 obtain⟨k,hk,rfl⟩:=List.mem_map.1 hx
 simp only [List.mem_range'_1]at hk ⊢
 have:=hin k hk.1 (by omega)
 omega
theorem isum_perm{f:Nat→Nat}{h:Nat}(hin:∀ k,1≤k→k≤h→1≤f k∧f k≤h)
 (hinj:∀ k j,1≤k→k≤h→1≤j→j≤h→f k=f j→k=j) (g:Nat→Nat):isum (fun k=>g (f k)) h=isum g h:=by
 rw [isum_eq,isum_eq]
 have:=((perm_map hin hinj).map g).sum_nat
 rw [List.map_map]at this
 exact this
def fl(h a k:Nat):Nat:=if a*k % (2*h+1)≤h then a*k % (2*h+1)else 2*h+1-a*k % (2*h+1)
def big(h a k:Nat):Nat:=if a*k % (2*h+1)≤h then 0 else 1
def mu(h a:Nat):Nat:=isum (big h a) h
theorem dvd_small{h a k:Nat}(hc:Nat.Coprime a (2*h+1))(hk:k<2*h+1)(hd:(2*h+1)∣a*k):k=0 :=
 Nat.eq_zero_of_dvd_of_lt (Nat.Coprime.dvd_of_dvd_mul_left hc.symm hd) hk
theorem mod_pos{h a k:Nat}(hc:Nat.Coprime a (2*h+1))(h1:1≤k)(hk:k<2*h+1):1≤a*k % (2*h+1):=by
 rcases Nat.eq_zero_or_pos (a*k % (2*h+1))with e|e
 ·have:=dvd_small hc hk (Nat.dvd_of_mod_eq_zero e);omega
 exact e
theorem fl_in{h a:Nat}(hc:Nat.Coprime a (2*h+1))(k:Nat)(h1:1≤k)(h2:k≤h):1≤fl h a k∧fl h a k≤h:=by
 have a1:=mod_pos hc h1 (by omega:k<2*h+1)
 have a2:=Nat.mod_lt (a*k) (by omega:2*h+1>0)
 unfold fl;split<;>omega
theorem same_mod{h a k j:Nat}(hc:Nat.Coprime a (2*h+1))(h2:k≤h)(h4:j≤h)
 (e:a*k % (2*h+1)=a*j % (2*h+1)):k=j:=by
 rcases Nat.le_total j k with hl|hl
 ·have d:(2*h+1)∣a*(k-j):=by
   rw [Nat.mul_sub];exact Nat.dvd_of_mod_eq_zero (Nat.sub_mod_eq_zero_of_mod_eq e)
  have:=dvd_small hc (by omega) d;omega
 have d:(2*h+1)∣a*(j-k):=by
  rw [Nat.mul_sub];exact Nat.dvd_of_mod_eq_zero (Nat.sub_mod_eq_zero_of_mod_eq e.symm)
 have:=dvd_small hc (by omega) d;omega
theorem opp_mod{h a k j:Nat}(hc:Nat.Coprime a (2*h+1))(h1:1≤k)(h2:k≤h)(h4:j≤h)
 (e:a*k % (2*h+1)+a*j % (2*h+1)=2*h+1):False:=by
 have d:(2*h+1)∣a*(k+j):=by
  refine Nat.dvd_of_mod_eq_zero ?_
  rw [Nat.mul_add,Nat.add_mod,e,Nat.mod_self]
 have:=dvd_small hc (by omega) d;omega
theorem fl_inj{h a:Nat}(hc:Nat.Coprime a (2*h+1))(k j:Nat)(h1:1≤k)(h2:k≤h)(_h3:1≤j)(h4:j≤h)
 (e:fl h a k=fl h a j):k=j:=by
 have a2:=Nat.mod_lt (a*k) (by omega:2*h+1>0)
 have b2:=Nat.mod_lt (a*j) (by omega:2*h+1>0)
 unfold fl at e
 split at e<;>split at e
 ·exact same_mod hc h2 h4 e
 ·exact(opp_mod hc h1 h2 h4 (by omega)).elim
 ·exact(opp_mod hc h1 h2 h4 (by omega)).elim
 exact same_mod hc h2 h4 (by omega)
theorem fl_sum{h a:Nat}(hc:Nat.Coprime a (2*h+1))(g:Nat→Nat):isum (fun k=>g (fl h a k)) h=isum g h :=
 isum_perm (fl_in hc) (fl_inj hc) g
theorem mu_floor{h a:Nat}(hc:Nat.Coprime a (2*h+1))(ho:a % 2=1) :
 mu h a % 2=isum (fun k=>a*k / (2*h+1)) h % 2:=by
 have e:isum (fun k=>k) h % 2=isum (fun k=>(a*k / (2*h+1)+fl h a k)+big h a k) h % 2:=by
  refine isum_parity h (fun k _ _=>?_)
  have hd:=Nat.div_add_mod (a*k) (2*h+1)
  have hm:=Nat.mod_lt (a*k) (by omega:2*h+1>0)
  have h1:a*k % 2=k % 2:=by rw [Nat.mul_mod,ho];omega
  have h2:(2*h+1)*(a*k / (2*h+1)) % 2=a*k / (2*h+1) % 2:=by
   rw [Nat.mul_mod,show(2*h+1) % 2=1 by omega];omega
  unfold fl big
  split<;>omega
 rw [isum_add,isum_add,fl_sum hc (fun k=>k)]at e
 unfold mu
 omega
theorem lattice{h g:Nat}(hc:Nat.Coprime (2*g+1) (2*h+1)) :
 isum (fun k=>(2*g+1)*k / (2*h+1)) h+isum (fun j=>(2*h+1)*j / (2*g+1)) g=g*h:=by
 have count:∀ (p q:Nat) (k:Nat),k≤p→(2*q+1)*k / (2*p+1)=isum (fun j=>if(2*p+1)*j≤(2*q+1)*k then 1 else 0) q:=by
  intro p q k hk
  have hq:(2*q+1)*k / (2*p+1)≤q:=by
   have:(2*q+1)*k<(q+1)*(2*p+1):=by
    have:(2*q+1)*k≤(2*q+1)*p:=Nat.mul_le_mul_left _ hk
    have e1:(2*q+1)*p=2*(q*p)+p:=by rw [Nat.add_mul,Nat.mul_assoc];omega
    have e2:(q+1)*(2*p+1)=2*(q*p)+q+2*p+1:=by
     rw [Nat.add_mul,Nat.mul_add,Nat.mul_left_comm];omega
    omega
   have:=(Nat.div_lt_iff_lt_mul (by omega:0<2*p+1)).2 this
   omega
  rw [← isum_le _ q hq]
  refine isum_congr q (fun j _ _=>?_)
  have:(j≤(2*q+1)*k / (2*p+1))=((2*p+1)*j≤(2*q+1)*k):=by
   rw [Nat.le_div_iff_mul_le (by omega),Nat.mul_comm j]
  simp only [this]
 have e1:isum (fun k=>(2*g+1)*k / (2*h+1)) h=isum (fun k=>isum (fun j=>if(2*h+1)*j≤(2*g+1)*k then 1 else 0) g) h :=
  isum_congr h (fun k _ hk=>count h g k hk)
 have e2:isum (fun j=>(2*h+1)*j / (2*g+1)) g=isum (fun k=>isum (fun j=>if(2*g+1)*k≤(2*h+1)*j then 1 else 0) g) h:=by
  rw [isum_swap]
  exact isum_congr g (fun j _ hj=>count g h j hj)
 rw [e1,e2,← isum_add]
 rw [isum_congr (g:=fun _=>g) h,isum_const]
 intro k hk1 hk2
 rw [← isum_add,isum_congr (g:=fun _=>1) g,isum_const]
 ·omega
 intro j hj1 hj2
 have hne:(2*h+1)*j≠(2*g+1)*k:=by
  intro e
  have:=dvd_small hc (by omega:k<2*h+1) ⟨j,e.symm⟩
  omega
 rcases Nat.lt_or_gt_of_ne hne with hl|hl
 ·rw [if_pos (Nat.le_of_lt hl),if_neg (by omega)]
 rw [if_neg (by omega),if_pos (Nat.le_of_lt hl)]
theorem reciprocity{h g:Nat}(hc:Nat.Coprime (2*g+1) (2*h+1)):(mu h (2*g+1)+mu g (2*h+1)) % 2=g*h % 2:=by
 have a:=mu_floor hc (by omega)
 have b:=mu_floor hc.symm (by omega)
 have c:=lattice hc
 omega
theorem mu_mod(h a:Nat):mu h (a % (2*h+1))=mu h a:=by
 unfold mu
 refine isum_congr h (fun k _ _=>?_)
 unfold big
 rw [Nat.mod_mul_mod]
theorem mu_one(h:Nat):mu h 1=0:=by
 unfold mu
 rw [isum_congr (g:=fun _=>0) h,isum_const]
 ·omega
 intro k _ hk
 unfold big
 rw [Nat.one_mul,Nat.mod_eq_of_lt (by omega),if_pos hk]
theorem count_big(h q:Nat):q≤h→isum (fun k=>if k≤q then 0 else 1) h=h-q:=by
 intro hq
 have e:isum (fun k=>if k≤q then 0 else 1) h+isum (fun k=>if k≤q then 1 else 0) h=h:=by
  rw [← isum_add,isum_congr (g:=fun _=>1) h,isum_const]
  ·omega
  intro k _ _;split<;>rfl
 rw [isum_le q h hq]at e
 omega
theorem mu_two(h:Nat):mu h 2=h-h / 2:=by
 unfold mu
 rw [← count_big h (h / 2) (by omega)]
 refine isum_congr h (fun k _ hk=>?_)
 unfold big
 rw [Nat.mod_eq_of_lt (by omega)]
 by_cases e:k≤h / 2
 ·rw [if_pos (by omega),if_pos e]
 rw [if_neg (by omega),if_neg e]
theorem mu_mul{h a b:Nat}(ha:Nat.Coprime a (2*h+1))(hb:Nat.Coprime b (2*h+1)):mu h (a*b) % 2=(mu h a+mu h b) % 2:=by
 have e:isum (big h (a*b)) h % 2=isum (fun k=>big h a (fl h b k)+big h b k) h % 2:=by
  refine isum_parity h (fun k h1 h2=>?_)
  have hr1:=mod_pos hb h1 (by omega:k<2*h+1)
  have hr2:=Nat.mod_lt (b*k) (by omega:2*h+1>0)
  have ek:a*b*k % (2*h+1)=a*(b*k % (2*h+1)) % (2*h+1):=by
   rw [Nat.mul_assoc,Nat.mul_mod_mod]
  have hs1:=mod_pos ha hr1 hr2
  have hs2:=Nat.mod_lt (a*(b*k % (2*h+1))) (by omega:2*h+1>0)
  unfold big fl
  rw [ek]
  by_cases c:b*k % (2*h+1)≤h
  ·rw [if_pos c,if_pos c];rfl
  rw [if_neg c,if_neg c]
  have en:a*(2*h+1-b*k % (2*h+1)) % (2*h+1)=2*h+1-a*(b*k % (2*h+1)) % (2*h+1):=by
   have s:(a*(2*h+1-b*k % (2*h+1)) % (2*h+1)+a*(b*k % (2*h+1)) % (2*h+1)) % (2*h+1)=0:=by
    rw [← Nat.add_mod,← Nat.mul_add,Nat.sub_add_cancel (by omega),Nat.mul_mod_left]
   have t:=Nat.mod_lt (a*(2*h+1-b*k % (2*h+1))) (by omega:2*h+1>0)
   generalize a*(2*h+1-b*k % (2*h+1)) % (2*h+1)=u at s t ⊢
   generalize a*(b*k % (2*h+1)) % (2*h+1)=v at s hs1 hs2 ⊢
   obtain⟨q,hq⟩:=Nat.dvd_of_mod_eq_zero s
   have:q=1:=by
    rcases q with _|_|q
    ·omega
    ·rfl
    rw [Nat.mul_add,Nat.mul_add]at hq;omega
   subst this
   omega
  rw [en]
  split<;>split<;>omega
 unfold mu
 rw [e,isum_add,fl_sum hb (big h a)]
theorem mul_mod_congr{n x x' y y':Nat}(h1:x % n=x' % n)(h2:y % n=y' % n):x*y % n=x'*y' % n:=by
 rw [Nat.mul_mod,h1,h2,← Nat.mul_mod]
def fac:Nat→Nat
 | 0=>1
 | h+1=>fac h*(h+1)
def iprod(f:Nat→Nat):Nat→Nat
 | 0=>1
 | h+1=>iprod f h*f (h+1)
theorem iprod_eq(f:Nat→Nat):∀ h,iprod f h=((List.range' 1 h).map f).prod
 | 0=>rfl
 | h+1=>by rw [List.range'_concat];simp [iprod,iprod_eq f h,Nat.add_comm]
theorem fac_eq:∀ h,fac h=iprod (fun k=>k) h
 | 0=>rfl
 | h+1=>by simp only [fac,iprod,fac_eq h]
theorem iprod_fl{h a:Nat}(hc:Nat.Coprime a (2*h+1)):iprod (fl h a) h=fac h:=by
 rw [fac_eq,iprod_eq,iprod_eq]
 have:=(perm_map (fl_in hc) (fl_inj hc)).prod_nat
 simpa using this
theorem iprod_scale(a:Nat):∀ h,iprod (fun k=>a*k) h=a ^ h*fac h
 | 0=>rfl
 | h+1=>by
  simp only [iprod,fac,iprod_scale a h]
  rw [Nat.pow_succ,Nat.mul_mul_mul_comm]
theorem gauss_prod{h a:Nat}:∀ m,iprod (fun k=>a*k) m % (2*h+1)=(2*h) ^ isum (big h a) m*iprod (fl h a) m % (2*h+1)
 | 0=>rfl
 | m+1=>by
  have e:a*(m+1) % (2*h+1)=(2*h) ^ big h a (m+1)*fl h a (m+1) % (2*h+1):=by
   unfold big fl
   have hm:=Nat.mod_lt (a*(m+1)) (by omega:2*h+1>0)
   split
   ·rw [Nat.pow_zero,Nat.one_mul,Nat.mod_mod]
   rw [Nat.pow_one]
   generalize a*(m+1) % (2*h+1)=r at hm ⊢
   obtain⟨s,hs⟩:∃ s,2*h+1=s+r:=⟨2*h+1-r,by omega⟩
   have:2*h*(2*h+1-r)=r+(2*h+1)*(2*h-r):=by
    obtain⟨t,ht⟩:∃ t,2*h=t+r:=⟨2*h-r,by omega⟩
    rw [show 2*h+1-r=t+1 by omega,show 2*h-r=t by omega,ht]
    rw [Nat.mul_add,Nat.add_mul (t+r) 1];omega
   rw [this,Nat.add_mul_mod_self_left,Nat.mod_eq_of_lt hm]
  simp only [iprod,isum]
  rw [mul_mod_congr (gauss_prod (h:=h) (a:=a) m) e,Nat.pow_add]
  rw [Nat.mul_mul_mul_comm]
theorem coprime_fac{n:Nat}:∀ h,(∀ k,1≤k→k≤h→Nat.Coprime k n)→Nat.Coprime (fac h) n
 | 0,_=>Nat.coprime_one_left _
 | h+1,H=>Nat.Coprime.mul_left (coprime_fac h (fun k a b=>H k a (by omega))) (H (h+1) (by omega) (by omega))
theorem cancel{n c x y:Nat}(hc:Nat.Coprime c n)(e:x*c % n=y*c % n):x % n=y % n:=by
 rcases Nat.le_total y x with hl|hl
 ·have d:n∣(x-y)*c:=by
   rw [Nat.sub_mul];exact Nat.dvd_of_mod_eq_zero (Nat.sub_mod_eq_zero_of_mod_eq e)
  obtain⟨q,hq⟩:=Nat.Coprime.dvd_of_dvd_mul_right hc.symm d
  rw [show x=y+n*q by omega,Nat.add_mul_mod_self_left]
 have d:n∣(y-x)*c:=by
  rw [Nat.sub_mul];exact Nat.dvd_of_mod_eq_zero (Nat.sub_mod_eq_zero_of_mod_eq e.symm)
 obtain⟨q,hq⟩:=Nat.Coprime.dvd_of_dvd_mul_right hc.symm d
 rw [show y=x+n*q by omega,Nat.add_mul_mod_self_left]
theorem neg_pow(h:Nat):∀ m,(2*h) ^ m % (2*h+1)=(if m % 2=0 then 1 else 2*h) % (2*h+1)
 | 0=>rfl
 | m+1=>by
  rw [Nat.pow_succ,mul_mod_congr (neg_pow h m) rfl]
  by_cases e:m % 2=0
  ·rw [if_pos e,if_neg (by omega),Nat.one_mul]
  rw [if_neg e,if_pos (by omega)]
  rcases h with _|h
  ·rfl
  have:2*(h+1)*(2*(h+1))=1+(2*(h+1)+1)*(2*h+1):=by
   rw [show 2*(h+1)=2*h+1+1 by omega]
   generalize 2*h+1=t
   rw [Nat.add_mul,Nat.mul_add,Nat.add_mul (t+1) 1 t,Nat.add_mul t 1 t];omega
  rw [this,Nat.add_mul_mod_self_left]
theorem gauss{h a:Nat}(hp:∀ k,1≤k→k≤h→Nat.Coprime k (2*h+1))(hc:Nat.Coprime a (2*h+1)) :
 a ^ h % (2*h+1)=(if mu h a % 2=0 then 1 else 2*h) % (2*h+1):=by
 rw [← neg_pow]
 refine cancel (coprime_fac h hp) ?_
 rw [← iprod_scale,gauss_prod h,iprod_fl hc,mu]
def allR:Nat→Nat→Bool
 | 0,lo=>2147483579 % lo != 0
 | k+1,lo=>allR k lo && allR k (lo+2 ^ k)
theorem allR_all:∀ k lo,allR k lo=true→∀ d,lo≤d→d<lo+2 ^ k→2147483579 % d≠0
 | 0,lo,h,d,h1,h2=>by
  have:d=lo:=by simp only [Nat.pow_zero]at h2;omega
  subst this
  simpa [allR]using h
 | k+1,lo,h,d,h1,h2=>by
  simp only [allR,Bool.and_eq_true]at h
  rw [Nat.pow_succ]at h2
  by_cases c:d<lo+2 ^ k
  ·exact allR_all k lo h.1 d h1 c
  exact allR_all k (lo+2 ^ k) h.2 d (by omega) (by omega)
theorem trial:allR 16 2=true:=by decide +kernel
theorem prime_coprime{k:Nat}(h1:1≤k)(h2:k<2147483579):Nat.Coprime k 2147483579:=by
 have hgd:Nat.gcd k 2147483579∣2147483579:=Nat.gcd_dvd_right _ _
 have hgk:Nat.gcd k 2147483579≤k:=Nat.le_of_dvd (by omega) (Nat.gcd_dvd_left _ _)
 have hg0:0<Nat.gcd k 2147483579:=Nat.gcd_pos_of_pos_left _ (by omega)
 unfold Nat.Coprime
 generalize Nat.gcd k 2147483579=g at hgd hgk hg0 ⊢
 rcases Nat.lt_or_ge 1 g with hg|hg
 ·exfalso
  obtain⟨c,hc⟩:=hgd
  have T:=allR_all 16 2 trial
  have hc1:1<c:=by
   rcases c with _|_|c
   ·omega
   ·omega
   omega
  by_cases hs:g<65538
  ·exact T g (by omega) (by omega) (by rw [hc];exact Nat.mul_mod_right ..)
  by_cases ht:c<65538
  ·exact T c (by omega) (by omega) (by rw [hc];exact Nat.mul_mod_left ..)
  have:65538*65538≤g*c:=Nat.mul_le_mul (by omega) (by omega)
  omega
 omega
end Go.Proofs.YtidekfgkpindbaaDoor.Jac
namespace Go.Proofs.YtidekfgkpindbaaDoor.Jac
def Inv(x a m:Nat)(q:Bool):Prop :=
 1≤a∧a≤x∧x<2147483579∧m≤2147483579∧∃ h,m=2*h+1∧Nat.Coprime a m∧((q=true↔mu h a % 2=0)↔mu 1073741789 x % 2=0)
theorem inv_start{x:Nat}(h1:1≤x)(h2:x<2147483579):Inv x x 2147483579 true :=
 ⟨h1,Nat.le_refl _,h2,Nat.le_refl _,1073741789,rfl,prime_coprime h1 h2,by simp⟩
theorem coprime_half{a m:Nat}(he:a % 2=0)(hc:Nat.Coprime a m):Nat.Coprime (a / 2) m :=
 Nat.Coprime.coprime_dvd_left (Nat.div_dvd_of_dvd (Nat.dvd_of_mod_eq_zero he)) hc
theorem coprime_two(h:Nat):Nat.Coprime 2 (2*h+1):=by
 unfold Nat.Coprime
 rw [Nat.gcd_rec,show(2*h+1) % 2=1 by omega]
 rfl
theorem inv_even{x a m:Nat}{q:Bool}(hi:Inv x a m q)(he:a % 2=0)(r:Bool)
 (hr:r=if m % 8=3∨m % 8=5 then !q else q):Inv x (a / 2) m r:=by
 obtain⟨h1,h2,hx,h3,h,rfl,hc,hq⟩:=hi
 refine⟨by omega,by omega,hx,h3,h,rfl,coprime_half he hc,?_⟩
 have hm:=mu_mul (coprime_two h) (coprime_half he hc)
 rw [show 2*(a / 2)=a by omega,mu_two]at hm
 rw [← hq]
 subst hr
 by_cases c:(2*h+1) % 8=3∨(2*h+1) % 8=5
 ·rw [if_pos c]
  have:(h-h / 2) % 2=1:=by omega
  cases q<;>simp<;>omega
 rw [if_neg c]
 have:(h-h / 2) % 2=0:=by omega
 cases q<;>simp<;>omega
theorem inv_odd{x a m:Nat}{q:Bool}(hi:Inv x a m q)(he:a % 2=1)(h1':a≠1)(r:Bool)
 (hr:r=if a % 4=3∧m % 4=3 then !q else q):Inv x (m % a) a r:=by
 obtain⟨h1,h2,hx,h3,h,rfl,hc,hq⟩:=hi
 obtain⟨g,rfl⟩:∃ g,a=2*g+1:=⟨a / 2,by omega⟩
 have hlt:=Nat.mod_lt (2*h+1) (by omega:2*g+1>0)
 have hc':Nat.Coprime ((2*h+1) % (2*g+1)) (2*g+1):=by
  unfold Nat.Coprime at hc ⊢
  rw [Nat.gcd_rec]at hc
  exact hc
 refine⟨?_,by omega,hx,by omega,g,rfl,hc',?_⟩
 ·rcases Nat.eq_zero_or_pos ((2*h+1) % (2*g+1))with e|e
  ·rw [e]at hc'
   have:2*g+1=1:=by simpa [Nat.Coprime]using hc'
   omega
  exact e
 have hre:=reciprocity hc
 have hgh:g*h % 2=if(2*g+1) % 4=3∧(2*h+1) % 4=3 then 1 else 0:=by
  rw [Nat.mul_mod]
  rcases Nat.mod_two_eq_zero_or_one g with a|a<;>rcases Nat.mod_two_eq_zero_or_one h with b|b<;>rw [a,b]
  ·rw [if_neg (by omega)]
  ·rw [if_neg (by omega)]
  ·rw [if_neg (by omega)]
  rw [if_pos (by omega)]
 rw [mu_mod,← hq]
 subst hr
 by_cases c:(2*g+1) % 4=3∧(2*h+1) % 4=3
 ·rw [if_pos c]at hgh ⊢
  cases q<;>simp<;>omega
 rw [if_neg c]at hgh ⊢
 cases q<;>simp<;>omega
def vld(x:Int):Bool:=decide (1≤x) && decide (x<2147483579) && decide (mu 1073741789 x.toNat % 2=0)
theorem inv_end{x m:Nat}{q:Bool}(hi:Inv x 1 m q):q=vld x:=by
 obtain⟨h1,h2,hx,h3,h,rfl,hc,hq⟩:=hi
 rw [mu_one]at hq
 unfold vld
 rw [Int.toNat_natCast,decide_eq_true (by omega:(1:Int)≤(x:Int)),decide_eq_true (by omega:(x:Int)<2147483579)]
 simp only [Bool.true_and]
 cases q
 ·rw [eq_comm,decide_eq_false_iff_not];simpa using hq
 rw [eq_comm,decide_eq_true_iff];simpa using hq
theorem vld_out{x:Int}(h:¬ (1≤x∧x<2147483579)):vld x=false:=by
 unfold vld
 by_cases h1:1≤x
 ·rw [decide_eq_false (by omega:¬ x<2147483579)];simp
 rw [decide_eq_false h1];simp
def pm(a n:Nat):Nat:=a ^ n % 2147483579
def PInv(a n c x m:Nat):Prop:=c<2147483579∧x<2147483579∧c*x ^ m % 2147483579=pm a n
theorem pm_lt(a n:Nat):pm a n<2147483579:=Nat.mod_lt _ (by omega)
theorem pinv_start{a n:Nat}(h:a<2147483579):PInv a n 1 a n:=⟨by omega,h,by rw [Nat.one_mul];rfl⟩
theorem sq_pow(x k:Nat):(x*x % 2147483579) ^ k % 2147483579=x ^ (2*k) % 2147483579:=by
 rw [← Nat.pow_mod,Nat.pow_mul,Nat.pow_two]
theorem pinv_odd{a n c x m:Nat}(h:PInv a n c x m)(ho:m % 2=1):PInv a n (c*x % 2147483579) (x*x % 2147483579) (m / 2):=by
 refine⟨Nat.mod_lt _ (by omega),Nat.mod_lt _ (by omega),?_⟩
 rw [← h.2.2,mul_mod_congr (Nat.mod_mod _ _) (sq_pow x (m / 2))]
 have e:x ^ m=x*x ^ (2*(m / 2)):=by
  rw [Nat.mul_comm,← Nat.pow_succ];congr 1;omega
 rw [e,Nat.mul_assoc]
theorem pinv_even{a n c x m:Nat}(h:PInv a n c x m)(ho:m % 2=0):PInv a n c (x*x % 2147483579) (m / 2):=by
 refine⟨h.1,Nat.mod_lt _ (by omega),?_⟩
 rw [← h.2.2,mul_mod_congr rfl (sq_pow x (m / 2)),show 2*(m / 2)=m by omega]
theorem pinv_end{a n c x:Nat}(h:PInv a n c x 0):c=pm a n:=by
 have:=h.2.2
 rwa [Nat.pow_zero,Nat.mul_one,Nat.mod_eq_of_lt h.1]at this
theorem vld_pm{x:Nat}(h1:1≤x)(h2:x<2147483579):pm x 1073741789=if mu 1073741789 x % 2=0 then 1 else 2147483578:=by
 obtain⟨h,hh⟩:∃ h:Nat,h=1073741789:=⟨_,rfl⟩
 have e:2*h+1=2147483579:=by omega
 have hg:=gauss (h:=h) (a:=x) (fun k a b=>by rw [e];exact prime_coprime a (by omega)) (by rw [e];exact prime_coprime h1 h2)
 rw [e]at hg
 rw [← hh]
 unfold pm
 rw [hg]
 split
 ·rfl
 rw [Nat.mod_eq_of_lt (by omega)];omega
theorem vld_iff{x:Nat}(h1:1≤x)(h2:x<2147483579):vld x=decide (pm x 1073741789=1):=by
 rw [vld_pm h1 h2]
 unfold vld
 rw [Int.toNat_natCast,decide_eq_true (by omega:(1:Int)≤(x:Int)),decide_eq_true (by omega:(x:Int)<2147483579)]
 simp only [Bool.true_and]
 by_cases h:mu 1073741789 x % 2=0
 ·rw [if_pos h,decide_eq_true h];rfl
 rw [if_neg h,decide_eq_false h];rfl
def red(n:Int):Int:=n % 1073741789
theorem tmod_lo(n:Int) : -1073741789<n.tmod 1073741789:=by
 rcases Int.le_total 0 n with h|h
 ·have:=Int.tmod_nonneg 1073741789 h;omega
 rw [show n = -(-n) by omega,Int.neg_tmod]
 have:=Int.tmod_lt_of_pos (-n) (b:=1073741789) (by omega);omega
theorem red_eq(n:Int):red n=if n.tmod 1073741789<0 then n.tmod 1073741789+1073741789 else n.tmod 1073741789:=by
 have h1:=Int.tmod_lt_of_pos n (b:=1073741789) (by omega)
 have h2:=tmod_lo n
 have h3:=Int.mul_tdiv_add_tmod n 1073741789
 unfold red
 generalize n.tmod 1073741789=r at *
 generalize n.tdiv 1073741789=q at *
 split<;>omega
theorem vld_bounds{x:Int}(h:vld x=true):1≤x∧x<2147483579:=by
 by_cases c:1≤x∧x<2147483579
 ·exact c
 rw [vld_out c]at h;cases h
def mulV(a b:Int):Int:=if vld a=true∧vld b=true then a*b % 2147483579 else 0
def mulE(a b:Int):Int:=if vld a=true∧vld b=true then 0 else 100
theorem mul_cases(a b:Int):(vld a=false∧mulV a b=0∧mulE a b=100)∨(vld a=true∧vld b=false∧mulV a b=0∧mulE a b=100) ∨
 (vld a=true∧vld b=true∧(0≤a∧a≤2147483578)∧(0≤b∧b≤2147483578)∧(0≤a*b∧a*b≤4611685744765530084)∧mulV a b=a*b % 2147483579∧mulE a b=0):=by
 cases ha:vld a with
 | false=>exact .inl ⟨rfl,by simp [mulV,ha],by simp [mulE,ha]⟩
 | true =>
  cases hb:vld b with
  | false=>exact .inr (.inl ⟨rfl,rfl,by simp [mulV,ha,hb],by simp [mulE,ha,hb]⟩)
  | true =>
   have h1:=vld_bounds ha
   have h2:=vld_bounds hb
   refine .inr (.inr ⟨rfl,rfl,⟨by omega,by omega⟩,⟨by omega,by omega⟩,⟨Int.mul_nonneg (by omega) (by omega),?_⟩,by simp [mulV,ha,hb],by simp [mulE,ha,hb]⟩)
   have:=Int.mul_le_mul (a:=a) (b:=b) (c:=2147483578) (d:=2147483578) (by omega) (by omega) (by omega) (by omega)
   omega
theorem red_bounds(n:Int):0≤red n∧red n<1073741789:=by unfold red;omega
theorem mulE_self(a:Int):mulE a a=if vld a=true then 0 else 100:=by unfold mulE;simp
def powV(a n:Int):Int:=if vld a=true then((pm a.toNat (red n).toNat:Nat):Int)else 0
theorem pow_cases(a n:Int):(vld a=false∧powV a n=0∧mulE a a=100) ∨
 (vld a=true∧0≤a∧a≤2147483578∧powV a n=((pm a.toNat (red n).toNat:Nat):Int)∧mulE a a=0):=by
 cases ha:vld a with
 | false=>exact .inl ⟨rfl,by simp [powV,ha],by simp [mulE,ha]⟩
 | true =>
  have h1:=vld_bounds ha
  exact .inr ⟨rfl,by omega,by omega,by simp [powV,ha],by simp [mulE,ha]⟩
def elV(n:Int):Int:=if n<1∨1073741789<n then 0 else if vld n=true then n else 2147483579-n
theorem red_least(n:Int):red n=(n.tmod 1073741789+1073741789) % 1073741789:=by
 rw [red_eq]
 have h1:=Int.tmod_lt_of_pos n (b:=1073741789) (by omega)
 have h2:=tmod_lo n
 split<;>omega
end Go.Proofs.YtidekfgkpindbaaDoor.Jac
namespace Go.Proofs.YtidekfgkpindbaaDoor
open Go.RowKit
def VRel(x0:Nat)(x n s:Value):Prop:=∃ (a m:Nat) (q:Bool),Jac.Inv x0 a m q∧x=.int .i64 a∧n=.int .i64 m∧s=.bool q
def VRel2(x0 m a1:Nat)(x s:Value):Prop:=∃ (a:Nat) (q:Bool),Jac.Inv x0 a m q∧a≤a1∧x=.int .i64 a∧s=.bool q
theorem ret_bool{a b:Bool}(h:a=b):Ending.returned (.bool a)=.returned (.bool b):=by rw [h]
theorem valid_out(x:Int)(w:World)(h:x<1∨2147483579≤x) :
 Calls Tryd.prog 22 #[.int .i64 x] w fun e w'=>e=.returned (.bool (Jac.vld x))∧w=w':=by
 have hv:Hid (Jac.vld x=false):=Lib.hid (Jac.vld_out (by omega))
 rcases h with h|h
 ·go_enter Tryd.func22,Tryd.ntmps22
  go_wp2;go_step3
  go_wp2
  rw [Exit.noGoto_ret]
  go_ret
  exact⟨ret_bool hv.out.symm,rfl⟩
 have h':¬ x<1:=by omega
 go_enter Tryd.func22,Tryd.ntmps22
 go_wp2;go_step3
 go_wp2
 rw [Exit.noGoto_ret]
 go_ret
 exact⟨ret_bool hv.out.symm,rfl⟩
set_option maxHeartbeats 400000 in
theorem valid_in(x:Nat)(w:World)(h:1≤x)(h0:x<2147483579) :
 Calls Tryd.prog 22 #[.int .i64 x] w fun e w'=>e=.returned (.bool (Jac.vld x))∧w=w':=by
 go_enter Tryd.func22,Tryd.ntmps22
 go_wp2;go_step3
 go_wp2;go_step3;go_wp2
 go_loop [0,3,4] (fun a b c=>VRel x a b c) (fun a _ _=>(intOf a).toNat)
 case atStart=>exact⟨x,2147483579,true,Jac.inv_start h h0,rfl,rfl,rfl⟩
 case round =>
  obtain⟨a,m,q,hi,rfl,rfl,rfl⟩:=hrel
  have hi1:=hi.1
  have hi2:=hi.2.1
  have hi3:=hi.2.2.2.1
  have HI:=Lib.hid hi
  clear hi
  by_cases hc:1<a
  ·go_wp2
   go_loop [0,4] (fun u v=>VRel2 x m a u v) (fun u _=>(intOf u).toNat)
   case atStart=>exact⟨a,q,HI.out,Nat.le_refl _,rfl,rfl⟩
   case round =>
    obtain⟨b,r,hj,hba,rfl,rfl⟩:=hrel
    have hj1:=hj.1
    have HJ:=Lib.hid hj
    clear hj
    go_wp2
    all_goals simp only [beq_iff_eq,beq_eq_false_iff_ne,ne_eq]at *
    ·exact⟨⟨b / 2,_,Jac.inv_even HJ.out (by omega) _ (if_pos (by omega)).symm,by omega,rfl,rfl⟩,by simp [intOf];omega⟩
    ·exact⟨⟨b / 2,_,Jac.inv_even HJ.out (by omega) _ (if_pos (by omega)).symm,by omega,rfl,rfl⟩,by simp [intOf];omega⟩
    ·exact⟨⟨b / 2,_,Jac.inv_even HJ.out (by omega) _ (if_neg (by omega)).symm,by omega,rfl,rfl⟩,by simp [intOf];omega⟩
    ·obtain rfl:b=1:=by omega
     have he:=Jac.inv_end HJ.out
     go_ret
     exact⟨ret_bool he,rfl⟩
    ·exact⟨⟨m % b,b,_,Jac.inv_odd HJ.out (by omega) (by omega) _ (if_pos (by omega)).symm,rfl,rfl,rfl⟩,by simp [intOf];have:=Nat.mod_lt m hj1;omega⟩
    ·exact⟨⟨m % b,b,_,Jac.inv_odd HJ.out (by omega) (by omega) _ (if_neg (by omega)).symm,rfl,rfl,rfl⟩,by simp [intOf];have:=Nat.mod_lt m hj1;omega⟩
    exact⟨⟨m % b,b,_,Jac.inv_odd HJ.out (by omega) (by omega) _ (if_neg (by omega)).symm,rfl,rfl,rfl⟩,by simp [intOf];have:=Nat.mod_lt m hj1;omega⟩
  go_wp2
  obtain rfl:a=1:=by omega
  have he:=Jac.inv_end HI.out
  go_ret
  exact⟨ret_bool he,rfl⟩
theorem valid_any(x:Int)(w:World) :
 Calls Tryd.prog 22 #[.int .i64 x] w fun e w'=>e=.returned (.bool (Jac.vld x))∧w=w':=by
 by_cases h:x<1∨2147483579≤x
 ·exact valid_out x w h
 obtain⟨n,rfl⟩:∃ n:Nat,x=n:=⟨x.toNat,by omega⟩
 exact valid_in n w (by omega) (by omega)
end Go.Proofs.YtidekfgkpindbaaDoor
namespace Go.Proofs.YtidekfgkpindbaaDoor
open Go.RowKit
set_option maxHeartbeats 400000 in
theorem ret_ii{a b c d:Int}(h:a=b)(h':c=d):Ending.returned (.tuple #[.int .i64 a,.int .i64 c])=.returned (.tuple #[.int .i64 b,.int .i64 d]):=by rw [h,h']
theorem mul_any(a b:Int)(w:World) :
 Calls Tryd.prog 40 #[.int .i64 a,.int .i64 b] w fun e w'=>e=.returned (.tuple #[.int .i64 (Jac.mulV a b),.int .i64 (Jac.mulE a b)])∧w=w':=by
 rcases Jac.mul_cases a b with ⟨ha,hm⟩|⟨ha,hb,hm⟩|⟨ha,hb,ba,bb,bm,hm⟩
 all_goals
  have HM:=Lib.hid hm
  clear hm
  try (have ba1:=ba.1;have ba2:=ba.2;have bb1:=bb.1;have bb2:=bb.2)
  go_enter Tryd.func40,Tryd.ntmps40
  go_wp2_with (go_at_call 22;refine(valid_any _ _).mono ?_;rintro e w' ⟨rfl,rfl⟩)
  go_ret2
  exact⟨ret_ii HM.out.1.symm HM.out.2.symm,rfl⟩
end Go.Proofs.YtidekfgkpindbaaDoor
namespace Go.Proofs.YtidekfgkpindbaaDoor
open Go.RowKit
theorem least_one(x:Int)(b:Nat)(w:World)(hc:w.cell? ⟨b,0,none⟩=some (.int .i64 x)) :
 Calls Tryd.prog 24 #[.slice (some ⟨b,0,none⟩) 1 1] w fun e w'=>e=.returned (.int .i64 (Jac.red x))∧w=w':=by
 have h1:=Int.tmod_lt_of_pos x (b:=1073741789) (by omega)
 have h2:=Jac.tmod_lo x
 have HR:=Lib.hid (Jac.red_least x)
 have hr:=Jac.red_bounds x
 have hr1:=hr.1
 have hr2:=hr.2
 clear hr
 go_enter Tryd.func24,Tryd.ntmps24
 go_wp2
 go_loop [3,8] (fun m i=>(m=.int .i64 1∧i=.int .i64 0)∨(m=.int .i64 (Jac.red x)∧i=.int .i64 1)) (fun _ i=>1-(intOf i).toNat)
 case atStart=>exact .inl ⟨rfl,rfl⟩
 case round =>
  rcases hrel with ⟨rfl,rfl⟩|⟨rfl,rfl⟩
  ·go_wp2
   go_round
   case rel=>exact .inr ⟨by rw [HR.out],rfl⟩
   case measure=>simp [intOf]
  go_wp2
  go_ret
  exact⟨rfl,rfl⟩
variable {F:Fence}{n:Nat}{P:Program}
structure LP where
 fn:FuncId
 tmps:Array Value
 ps:Array Tmp
 assign:Code
 body:Code
 D:Nat
def LP.obj(L:LP)(st:LoopState)(pe:Option Code):Obj :=
 .loop { state:=st,pending:=pe,fn:=L.fn,tmps:=L.tmps,params:=L.ps,assign:=L.assign,body:=L.body,defers:=L.D }
def lmark(D:Nat)(a:Act):Act:={ a with defers:={ target:=.collected D,args:=#[] }::a.defers }
def lafter(F:Fence)(n:Nat)(P:Program)(Q:Exit→Act→World→Prop)(a:Act)(W:World):Option Code→Prop
 | none=>Q .normal a W
 | some c=>c.wpIn F n P Q a W
def LP.ends(L:LP)(F:Fence)(n:Nat)(P:Program)(Q:Exit→Act→World→Prop)(a:Act)(l:Nat)(e:Ending)(W:World):Prop :=
 ∃ v st jump,e=.returned v∧st≠.busy∧W.heap[l]?=some (L.obj st jump)∧lafter F n P Q a (W.putObj l (L.obj .exhausted jump)) jump
theorem wpIn_rangeFunc_line{g:Operand}{ps:Array Tmp}{assign body:Code}{Q:Exit→Act→World→Prop}{a:Act}{w:World}
 (hro:F.round=none) (h1:1≤n) {gf:Nat} {lb:Array Value} (hg:a.eval g=.func (.func gf) #[] lb) (hFg:F.fn gf) (eg:∀ args w,(callFunc gf args).run P w=.ok (.enter gf args) w)
 (h:∀ L:LP,F.fn L.fn→Hid (L.tmps=a.tmps)→Hid (L.ps=ps)→Hid (L.assign=assign)→Hid (L.body=body) →
  CallsIn F (n-1) P gf (#[.func (.yield (w.heap.size+1)) #[] #[]]++lb)
  ((w.alloc (.deferred (some []))).alloc (L.obj .ready none)) (L.ends F n P Q (lmark w.heap.size a) (w.heap.size+1))) :
 (Code.rangeFunc g ps assign body).wpIn F n P Q a w:=by
 refine wpIn_rangeFunc ?_
 intro fn hfn
 rw [hro]
 have hc:=h ⟨fn,a.tmps,ps,assign,body,w.heap.size⟩ hfn rfl rfl rfl rfl
 obtain⟨W1,hW1⟩:∃ W1,(w.alloc (.deferred (some []))).alloc (LP.obj ⟨fn,a.tmps,ps,assign,body,w.heap.size⟩ .ready none)=W1:=⟨_,rfl⟩
 rw [hW1]at hc
 refine⟨w.heap.size+1,[{ target:=.collected w.heap.size,args:=#[] }],W1,{ target:=.fn (.func gf) lb,args:=#[.func (.yield (w.heap.size+1)) #[] #[]] },W1,gf,
  #[.func (.yield (w.heap.size+1)) #[] #[]]++lb,W1,?_,?_,?_,?_,fun _=>h1,?_⟩
 ·rw [← hW1];exact run_enterLoop_outer _ _ _ _ _
 ·simp only [resolve,hg]
  simp [go_sem]
 ·intro f' hf';simp [Target.leads]at hf';subst hf';exact hFg
 ·simp [invoke,go_sem,eg]
 refine CallsIn.mono hc ?_
 intro e W hh
 obtain⟨v,st,jump,he,hst,hl,hj⟩:=hh
 subst he
 refine⟨jump,W.putObj (w.heap.size+1) (LP.obj ⟨fn,a.tmps,ps,assign,body,w.heap.size⟩ .exhausted jump),?_,?_⟩
 ·exact run_endLoop hl hst
 cases jump with
 | none=>exact hj
 | some c=>exact hj
def LP.round(L:LP)(l:Nat)(R:Ending→World→Prop)(e:Exit)(_a:Act)(W:World):Prop :=
 W.heap[l]?=some (L.obj .busy none) ∧
  match e with
  | .normal=>R (.returned (.bool true)) (W.putObj l (L.obj .ready none))
  | .ret=>R (.returned (.bool false)) (W.putObj l (L.obj .done (some .ret)))
  | .exit id=>R (.returned (.bool false)) (W.putObj l (L.obj .done (some (.exit id))))
  | .goto t=>R (.returned (.bool false)) (W.putObj l (L.obj .done (some (.goto t))))
  | _=>False
theorem run_yield_lit{L:LP}{l:Nat}{args:Array Value}{W:World}{ps:Array Tmp}{tmps:Array Value}(hp:Hid (L.ps=ps))(ht:Hid (L.tmps=tmps))
 (h:W.heap[l]?=some (L.obj .ready none)) (hs:args.size=ps.size) :
 (Instr.yield l args).run P W=.ok (.round l L.fn ((ps.zip args).foldl (fun tmps (t,a)=>tmps.setIfInBounds t a) tmps) L.assign L.body) W:=by
 have hp':L.ps=ps:=hp
 have ht':L.tmps=tmps:=ht
 subst hp'
 subst ht'
 exact run_yield h hs
theorem roundIn_line{L:LP}{l:Nat}{tmps:Array Value}{w:World}{R:Ending→World→Prop}(hF:F.fn L.fn)
 (h:L.assign.wpIn (F.inRound l) n P (Exit.then (fun a₁ w₁=>w₁.heap[l]?=some (L.obj .ready none) ∧
  L.body.wpIn (F.inRound l) n P (L.round l R) a₁ (w₁.putObj l (L.obj .busy none))) (fun _ _ _=>False)) { tmps:=tmps,defers:=[] } w) :
 RoundIn F n P l L.fn tmps L.assign L.body w R:=by
 refine roundIn_of_wpIn hF (wpIn_mono h ?_)
 intro e a W hq
 cases e with
 | normal =>
  obtain⟨hl,hb⟩:=hq
  refine⟨_,run_beginRound hl rfl,wpIn_mono hb ?_⟩
  rintro e2 a2 W2 ⟨hl2,hr⟩
  cases e2 with
  | normal=>exact⟨_,_,run_endRound none hl2,hr⟩
  | ret=>exact⟨_,_,run_endRound (some .ret) hl2,hr⟩
  | exit id=>exact⟨_,_,run_endRound (some (.exit id)) hl2,hr⟩
  | goto t=>exact⟨_,_,run_endRound (some (.goto t)) hl2,hr⟩
  | panic c=>exact hr.elim
  | outgrown=>exact hr.elim
 | ret=>exact hq.elim
 | exit id=>exact hq.elim
 | goto t=>exact hq.elim
 | panic c=>exact hq.elim
 | outgrown=>exact hq.elim
theorem heap_put{W:World}{l k:Nat}{o o':Obj}(h:W.heap[k]?=some o)(hne:k≠l):(W.putObj l o').heap[k]?=some o :=
 (World.putObj_heap_other hne).trans h
theorem heap_put_same{W:World}{l:Nat}{o o':Obj}(h:W.heap[l]?=some o):(W.putObj l o').heap[l]?=some o' :=
 World.putObj_heap_same (Array.getElem?_eq_some_iff.1 h).1
theorem heap_set{W:World}{b k:Nat}{o:Obj}{v:Value}(h:W.heap[k]?=some o)(hne:k≠b):(W.setCell ⟨b,0,none⟩ v).heap[k]?=some o :=
 (Below.heap_setCell _ _ _ _ hne).trans h
theorem below_put{B l:Nat}{a W:World}(h:Below B a W)(hl:B≤l)(o:Obj):Below B a (W.putObj l o) :=
 h.trans ⟨rfl,rfl,rfl,by simp,fun k hk=>World.putObj_heap_other (by omega)⟩
theorem _root_.Go.Boxed.put{W:World}{B l:Nat}{t:TypeId}{v:Value}{o:Obj}(h:Boxed W B t v)(hne:B≠l):Boxed (W.putObj l o) B t v:=heap_put h hne
def boxNat(W:World)(B:Nat):Nat:=match W.cell? ⟨B,0,none⟩with|some v=>(intOf v).toNat|none=>0
theorem boxNat_of{W:World}{B:Nat}{t:TypeId}{k:IntKind}{q:Int}(h:Boxed W B t (.int k q)):boxNat W B=q.toNat:=by
 unfold boxNat;rw [h.cell];rfl
theorem heap?_alloc (W:World)(o:Obj)(k:Nat):(W.alloc o).heap[k]?=if k=W.heap.size then some o else W.heap[k]?:=by
 show(W.heap.push o)[k]?=_
 rw [Array.getElem?_push]
theorem heap_at{W:World}{o:Obj}{k:Nat}(h:k=W.heap.size):(W.alloc o).heap[k]?=some o:=by rw [heap?_alloc,if_pos h]
theorem heap_ne{W:World}{o o':Obj}{k:Nat}(h:k≠W.heap.size)(h':W.heap[k]?=some o'):(W.alloc o).heap[k]?=some o':=by rw [heap?_alloc,if_neg h,h']
end Go.Proofs.YtidekfgkpindbaaDoor
namespace Go.Proofs.YtidekfgkpindbaaDoor
open Go Go.RowKit Go.Shelf
attribute [local go_sem] Oper.semAt_some
theorem squares_any(a n:Int)(w:World) :
 Calls Tryd.prog 23 #[.int .i64 a,.int .i64 n] w fun e w' =>
  e=.returned (.func (.func 53) #[] #[.pointer (some ⟨w.heap.size+1,0,none⟩),.pointer (some ⟨w.heap.size,0,none⟩)]) ∧
  (w.alloc (.cells #[.int .i64 a] 3)).alloc (.cells #[.int .i64 n] 3)=w':=by
 go_enter Tryd.func23,Tryd.ntmps23
 go_wp2
 go_ret
 exact⟨rfl,rfl⟩
def SqSt(w:World)(L:LP)(a n:Nat)(m:Nat)(W:World):Prop :=
 ∃ x c,Jac.PInv a n c x m∧m≤n∧Boxed W w.heap.size 3 (.int .i64 c)∧Boxed W (w.heap.size+2) 3 (.int .i64 x)∧Boxed W (w.heap.size+3) 3 (.int .i64 m) ∧
  W.heap[w.heap.size+5]?=some (L.obj .ready none)∧W.heap[w.heap.size+4]?=some (.deferred (some []))∧Below w.heap.size w W
set_option maxHeartbeats 1000000 in
theorem pow_in(a n:Int)(w:World)(hv:Jac.vld a=true) :
 CallsIn Fence.wide 5 Tryd.prog 9 #[.int .i64 a,.int .i64 n] w fun e w'=>e=.returned (.tuple #[.int .i64 (Jac.powV a n),.int .i64 (Jac.mulE a a)])∧Below w.heap.size w w':=by
 refine callsIn_of_wp_marks Tryd.func9 rfl trivial ?_ rfl
 simp only [Tryd.ntmps9,List.size_toArray,List.length_cons,List.length_nil,Nat.reduceAdd,Nat.reduceSub,Array.replicate_succ,Array.replicate_zero,List.push_toArray,List.append_toArray,List.nil_append,List.cons_append]
 gi_wp2_with (first|(refine⟨trivial,?_⟩;gi_at_call 22;refine CallsIn.mono (callsIn_wide.2 (valid_any _ _)) ?_;rintro e w' ⟨rfl,rfl⟩)|(refine⟨trivial,?_⟩;gi_at_call 24;refine CallsIn.mono (callsIn_wide.2 (least_one n _ _ (by simp))) ?_;rintro e w' ⟨rfl,rfl⟩)|(refine⟨trivial,?_⟩;gi_at_call 23;refine CallsIn.mono (callsIn_wide.2 (squares_any _ _ _)) ?_;rintro e w' ⟨rfl,rfl⟩))
 have hb:=Jac.vld_bounds hv
 obtain⟨x,rfl⟩:∃ x:Nat,a=x:=⟨a.toNat,by omega⟩
 have hr:=Jac.red_bounds n
 obtain⟨m,hm⟩:∃ m:Nat,Jac.red n=m:=⟨(Jac.red n).toNat,by omega⟩
 rw [hm]
 refine wpIn_rangeFunc_line rfl (by omega) (gf:=53) rfl trivial (enters_of Tryd.func53 (by kernel_rfl) rfl) ?_
 intro L hLf hLt hLp hLa hLb
 refine callsIn_of_wp Tryd.func53 rfl trivial ?_
 simp only [Tryd.ntmps53,List.size_toArray,List.length_cons,List.length_nil,Nat.reduceAdd,Nat.reduceSub,Array.replicate_succ,Array.replicate_zero,List.push_toArray,List.append_toArray,List.nil_append,List.cons_append]
 gi_wp2
 gi_loopw [5] (fun _ W=>∃ k,SqSt w L x m k W) (fun _ W=>boxNat W (w.heap.size+3))
 case atStart =>
  refine⟨m,x,1,Jac.pinv_start (by omega),Nat.le_refl _,?_,?_,?_,?_,?_,?_⟩
  ·repeat (first|exact heap_at (by first|rfl|(simp only [World.size_alloc];done)|(simp only [World.size_alloc];omega))|refine heap_ne (by first|(simp only [World.size_alloc];omega)|omega) ?_)
  ·repeat (first|exact heap_at (by first|rfl|(simp only [World.size_alloc];done)|(simp only [World.size_alloc];omega))|refine heap_ne (by first|(simp only [World.size_alloc];omega)|omega) ?_)
  ·repeat (first|exact heap_at (by first|rfl|(simp only [World.size_alloc];done)|(simp only [World.size_alloc];omega))|refine heap_ne (by first|(simp only [World.size_alloc];omega)|omega) ?_)
  ·repeat (first|exact heap_at (by first|rfl|(simp only [World.size_alloc];done)|(simp only [World.size_alloc];omega))|refine heap_ne (by first|(simp only [World.size_alloc];omega)|omega) ?_)
  ·repeat (first|exact heap_at (by first|rfl|(simp only [World.size_alloc];done)|(simp only [World.size_alloc];omega))|refine heap_ne (by first|(simp only [World.size_alloc];omega)|omega) ?_)
  repeat (first|exact Below.refl _ _|(refine Below.alloc ?_ (by first|exact Nat.le_refl _|(simp only [World.size_alloc];omega)) _)|(refine Below.setCell ?_ (by simp) _))
 case round =>
  obtain⟨k,y,c,hi,hkn,hc,hy,hk,hl,hD,hbl⟩:=hrel
  have hm0:=Lib.hid (boxNat_of hk)
  have c1:=hc.cell
  have c2:=hy.cell
  have c3:=hk.cell
  have f1:=hc.frozen
  have f2:=hy.frozen
  have f3:=hk.frozen
  have p1:=hi.1
  have p2:=hi.2.1
  have b1:c*y≤2147483578*2147483578:=Nat.mul_le_mul (by omega) (by omega)
  have b2:y*y≤2147483578*2147483578:=Nat.mul_le_mul (by omega) (by omega)
  by_cases h0:0<k
  ·have hks:k<9223372036854775808:=by omega
   have hb2:=Go.Proofs.and_one k hks
   rcases Nat.mod_two_eq_zero_or_one k with ho|ho
   ·have hbit:(bits BinOp.and IntKind.i64 (↑k) 1 == 1)=false:=by rw [hb2,ho];rfl
    have hyd:=run_yield_lit (P:=Tryd.prog) (args:=#[.int .i64 (y:Int),.bool false]) hLp hLt hl rfl
    have hi2:=Jac.pinv_even hi ho
    clear hb2 ho
    gi_wp2
    refine roundIn_line trivial ?_
    rw [hLa.out]
    gi_wp2
    refine⟨hl,?_⟩
    rw [hLb.out]
    have hc1:=hc.put (o:=L.obj .busy none) (l:=w.heap.size+5) (by omega)
    have hy1:=hy.put (o:=L.obj .busy none) (l:=w.heap.size+5) (by omega)
    have hk1:=hk.put (o:=L.obj .busy none) (l:=w.heap.size+5) (by omega)
    have hl1:=heap_put_same (o':=L.obj .busy none) hl
    have hD1:=heap_put (l:=w.heap.size+5) (o':=L.obj .busy none) hD (by omega)
    have hbl1:=below_put hbl (l:=w.heap.size+5) (by omega) (L.obj .busy none)
    clear hyd c1 c2 c3 f1 f2 f3 hc hy hk hl hD hbl
    generalize wr.putObj (w.heap.size+5) (L.obj .busy none)=W1 at *
    have c1:=hc1.cell
    have c2:=hy1.cell
    have c3:=hk1.cell
    have f1:=hc1.frozen
    have f2:=hy1.frozen
    have f3:=hk1.frozen
    gi_wp2
    have HL:=hl1
    have HC:=hc1
    have HY:=hy1
    have HK:=hk1
    have HD:=hD1
    have HB:=hbl1
    clear hl1 hc1 hy1 hk1 hD1 hbl1
    clear c1 c2 c3 f1 f2 f3
    refine⟨HL,?_⟩
    have hl2:=heap_put_same (o':=L.obj .ready none) HL
    have hc2:=HC.put (o:=L.obj .ready none) (l:=w.heap.size+5) (by omega)
    have hy2:=HY.put (o:=L.obj .ready none) (l:=w.heap.size+5) (by omega)
    have hk2:=HK.put (o:=L.obj .ready none) (l:=w.heap.size+5) (by omega)
    have hD2:=heap_put (l:=w.heap.size+5) (o':=L.obj .ready none) HD (by omega)
    have hbl2:=below_put HB (l:=w.heap.size+5) (by omega) (L.obj .ready none)
    clear HL HC HY HK HD HB
    dsimp only
    generalize World.putObj _ (w.heap.size+5) (L.obj .ready none)=W2 at *
    have c1:=hc2.cell
    have c2:=hy2.cell
    have c3:=hk2.cell
    have f1:=hc2.frozen
    have f2:=hy2.frozen
    have f3:=hk2.frozen
    gi_wp2
    refine⟨⟨k / 2,_,_,hi2,by omega,(hc2.other (by omega) _).other (by omega) _,(hy2.set _).other (by omega) _,(hk2.other (by omega) _).set _,
     heap_set (heap_set hl2 (by omega)) (by omega),heap_set (heap_set hD2 (by omega)) (by omega),(hbl2.setCell (p:=⟨w.heap.size+2,0,none⟩) (by simp) _).setCell (p:=⟨w.heap.size+3,0,none⟩) (by simp) _⟩,?_⟩
    rw [hm0.out,boxNat_of ((hk2.other (B':=w.heap.size+2) (by omega) (.int .i64 ((y:Int)*y % 2147483579))).set (.int .i64 ((k:Int) / 2)))]
    omega
   have hbit:(bits BinOp.and IntKind.i64 (↑k) 1 == 1)=true:=by rw [hb2,ho];rfl
   have hyd:=run_yield_lit (P:=Tryd.prog) (args:=#[.int .i64 (y:Int),.bool true]) hLp hLt hl rfl
   have hi2:=Jac.pinv_odd hi ho
   clear hb2 ho
   gi_wp2
   refine roundIn_line trivial ?_
   rw [hLa.out]
   gi_wp2
   refine⟨hl,?_⟩
   rw [hLb.out]
   have hc1:=hc.put (o:=L.obj .busy none) (l:=w.heap.size+5) (by omega)
   have hy1:=hy.put (o:=L.obj .busy none) (l:=w.heap.size+5) (by omega)
   have hk1:=hk.put (o:=L.obj .busy none) (l:=w.heap.size+5) (by omega)
   have hl1:=heap_put_same (o':=L.obj .busy none) hl
   have hD1:=heap_put (l:=w.heap.size+5) (o':=L.obj .busy none) hD (by omega)
   have hbl1:=below_put hbl (l:=w.heap.size+5) (by omega) (L.obj .busy none)
   clear hyd c1 c2 c3 f1 f2 f3 hc hy hk hl hD hbl
   generalize wr.putObj (w.heap.size+5) (L.obj .busy none)=W1 at *
   have c1:=hc1.cell
   have c2:=hy1.cell
   have c3:=hk1.cell
   have f1:=hc1.frozen
   have f2:=hy1.frozen
   have f3:=hk1.frozen
   gi_wp2
   have HL:=heap_set (v:=.int .i64 ((c:Int)*y % 2147483579)) (b:=w.heap.size) hl1 (by omega)
   have HC:=hc1.set (.int .i64 ((c:Int)*y % 2147483579))
   have HY:=hy1.other (B':=w.heap.size) (by omega) (.int .i64 ((c:Int)*y % 2147483579))
   have HK:=hk1.other (B':=w.heap.size) (by omega) (.int .i64 ((c:Int)*y % 2147483579))
   have HD:=heap_set (v:=.int .i64 ((c:Int)*y % 2147483579)) (b:=w.heap.size) hD1 (by omega)
   have HB:=hbl1.setCell (p:=⟨w.heap.size,0,none⟩) (Nat.le_refl _) (.int .i64 ((c:Int)*y % 2147483579))
   clear hl1 hc1 hy1 hk1 hD1 hbl1
   clear c1 c2 c3 f1 f2 f3
   refine⟨HL,?_⟩
   have hl2:=heap_put_same (o':=L.obj .ready none) HL
   have hc2:=HC.put (o:=L.obj .ready none) (l:=w.heap.size+5) (by omega)
   have hy2:=HY.put (o:=L.obj .ready none) (l:=w.heap.size+5) (by omega)
   have hk2:=HK.put (o:=L.obj .ready none) (l:=w.heap.size+5) (by omega)
   have hD2:=heap_put (l:=w.heap.size+5) (o':=L.obj .ready none) HD (by omega)
   have hbl2:=below_put HB (l:=w.heap.size+5) (by omega) (L.obj .ready none)
   clear HL HC HY HK HD HB
   dsimp only
   generalize World.putObj _ (w.heap.size+5) (L.obj .ready none)=W2 at *
   have c1:=hc2.cell
   have c2:=hy2.cell
   have c3:=hk2.cell
   have f1:=hc2.frozen
   have f2:=hy2.frozen
   have f3:=hk2.frozen
   gi_wp2
   refine⟨⟨k / 2,_,_,hi2,by omega,(hc2.other (by omega) _).other (by omega) _,(hy2.set _).other (by omega) _,(hk2.other (by omega) _).set _,
    heap_set (heap_set hl2 (by omega)) (by omega),heap_set (heap_set hD2 (by omega)) (by omega),(hbl2.setCell (p:=⟨w.heap.size+2,0,none⟩) (by simp) _).setCell (p:=⟨w.heap.size+3,0,none⟩) (by simp) _⟩,?_⟩
   rw [hm0.out,boxNat_of ((hk2.other (B':=w.heap.size+2) (by omega) (.int .i64 ((y:Int)*y % 2147483579))).set (.int .i64 ((k:Int) / 2)))]
   omega
  have hk0:k=0:=by omega
  gi_wp2
  go_end0
  refine⟨_,.ready,none,rfl,by simp,hl,?_⟩
  unfold lafter lmark
  dsimp only
  have hc2:=hc.put (o:=L.obj .exhausted none) (l:=w.heap.size+5) (by omega)
  have hD2:=heap_put (l:=w.heap.size+5) (o':=L.obj .exhausted none) hD (by omega)
  have hbl2:=below_put hbl (l:=w.heap.size+5) (by omega) (L.obj .exhausted none)
  clear hc hl hD hbl hy hk c1 c2 c3 f1 f2 f3
  have e5:w.heap.size+1+1+1+1+1=w.heap.size+5:=rfl
  rw [e5]
  generalize World.putObj _ (w.heap.size+5) (L.obj .exhausted none)=W2 at *
  have c1:=hc2.cell
  have f1:=hc2.frozen
  gi_wp2
  subst hk0
  have e1:=Jac.pinv_end hi
  have hc3:=hc2.set (.int .i64 (c:Int))
  have hD3:=heap_set (v:=.int .i64 (c:Int)) (b:=w.heap.size) hD2 (by omega)
  have hb3:=hbl2.setCell (p:=⟨w.heap.size,0,none⟩) (Nat.le_refl _) (.int .i64 (c:Int))
  generalize World.setCell W2 _ _=W3 at *
  have hc4:=(hc3.put (o:=.deferred none) (l:=w.heap.size+4) (by omega)).cell
  refine⟨by simp,.inl ⟨_,_,rfl,run_takeDeferred hD3,?_⟩⟩
  refine⟨.tuple #[.int .i64 c,.int .i64 0],?_,ret_ii ?_ ?_,below_put hb3 (by omega) _⟩
  ·simp [results,Tryd.f9,go_sem,hc4]
  ·rcases Jac.pow_cases x n with ⟨h1,_⟩|⟨_,_,_,h2,_⟩
   ·rw [hv]at h1;cases h1
   rw [h2,hm,Int.toNat_natCast,Int.toNat_natCast,e1]
  rw [Jac.mulE_self,if_pos hv]
theorem pow_any(a n:Int)(w:World) :
 Calls Tryd.prog 9 #[.int .i64 a,.int .i64 n] w fun e w'=>e=.returned (.tuple #[.int .i64 (Jac.powV a n),.int .i64 (Jac.mulE a a)])∧Below w.heap.size w w':=by
 rcases Jac.pow_cases a n with ⟨hv,hm⟩|⟨hv,_⟩
 ·have HM:=Lib.hid hm
  clear hm
  go_enter Tryd.func9,Tryd.ntmps9
  go_wp2_with (go_at_call 22;refine(valid_any _ _).mono ?_;rintro e w' ⟨rfl,rfl⟩)
  refine bodyPost_ret (v:=.tuple #[.int .i64 0,.int .i64 100]) (by simp [results,Tryd.results9,go_sem]) rfl ⟨ret_ii HM.out.1.symm HM.out.2.symm,?_⟩
  repeat (first|exact Below.refl _ _|(refine Below.alloc ?_ (by first|exact Nat.le_refl _|(simp only [World.size_alloc];omega)) _)|(refine Below.setCell ?_ (by simp) _))
 exact callsIn_wide.1 (pow_in a n w hv)
end Go.Proofs.YtidekfgkpindbaaDoor
namespace Go.Proofs.YtidekfgkpindbaaDoor.Jac
theorem vld_nat(x:Nat)(h1:1≤x)(h2:x<2147483579):vld (x:Int)=decide (mu 1073741789 x % 2=0):=by
 unfold vld
 rw [Int.toNat_natCast,decide_eq_true (by omega:(1:Int)≤(x:Int)),decide_eq_true (by omega:(x:Int)<2147483579)]
 simp only [Bool.true_and]
theorem mod_pos'{a b:Nat}(ha:1≤a)(ha':a<2147483579)(hb:1≤b)(hb':b<2147483579):1≤a*b % 2147483579 :=
 mod_pos (h:=1073741789) (prime_coprime ha ha') hb hb'
theorem vld_mul{a b:Nat}(ha:1≤a)(ha':a<2147483579)(hb:1≤b)(hb':b<2147483579) :
 vld ((a*b % 2147483579:Nat):Int)=(vld (a:Int) == vld (b:Int)):=by
 have h1:=mod_pos' ha ha' hb hb'
 have h2:=Nat.mod_lt (a*b) (by omega:2147483579>0)
 rw [vld_nat _ h1 h2,vld_nat a ha ha',vld_nat b hb hb']
 have e:=mu_mod 1073741789 (a*b)
 have m:=mu_mul (h:=1073741789) (prime_coprime ha ha') (prime_coprime hb hb')
 rw [show 2*1073741789+1=2147483579 from rfl]at e
 rw [e]
 generalize mu 1073741789 (a*b)=u at *
 generalize mu 1073741789 a=p at *
 generalize mu 1073741789 b=q at *
 rcases Nat.mod_two_eq_zero_or_one p with hp|hp<;>rcases Nat.mod_two_eq_zero_or_one q with hq|hq
 ·rw [decide_eq_true hp,decide_eq_true hq,decide_eq_true (by omega)];rfl
 ·rw [decide_eq_true hp,decide_eq_false (by omega),decide_eq_false (by omega)];rfl
 ·rw [decide_eq_false (by omega),decide_eq_true hq,decide_eq_false (by omega)];rfl
 rw [decide_eq_false (by omega:¬ p % 2=0),decide_eq_false (by omega:¬ q % 2=0),decide_eq_true (by omega)];rfl
theorem vld_four:vld 4=true:=by
 have:=vld_mul (a:=2) (b:=2) (by omega) (by omega) (by omega) (by omega)
 simpa using this
theorem pm_zero(a:Nat):pm a 0=1:=rfl
theorem pm_one{a:Nat}(h:a<2147483579):pm a 1=a:=by unfold pm;rw [Nat.pow_one,Nat.mod_eq_of_lt h]
theorem pm_add(a m n:Nat):pm a (m+n)=pm a m*pm a n % 2147483579:=by
 unfold pm;rw [Nat.pow_add,Nat.mul_mod]
theorem pm_pm(a m n:Nat):pm (pm a m) n=pm a (m*n):=by
 unfold pm;rw [← Nat.pow_mod,← Nat.pow_mul]
theorem pm_one_base(n:Nat):pm 1 n=1:=by unfold pm;rw [Nat.one_pow]
theorem pm_order{a:Nat}(h:vld (a:Int)=true):pm a 1073741789=1:=by
 have hb:=vld_bounds h
 rw [vld_iff (by omega) (by omega)]at h
 exact of_decide_eq_true h
theorem pm_red{a:Nat}(h:vld (a:Int)=true)(n:Nat):pm a (n % 1073741789)=pm a n:=by
 have e:=Nat.div_add_mod n 1073741789
 have ho:=pm_order h
 generalize hq:(1073741789:Nat)=q at *
 have:pm a n=pm a (q*(n / q)+n % q):=by rw [e]
 rw [this,pm_add,← pm_pm,ho,pm_one_base,Nat.one_mul,Nat.mod_eq_of_lt (pm_lt _ _)]
theorem vld_pm_elem{a:Nat}(h:vld (a:Int)=true)(n:Nat):vld ((pm a n:Nat):Int)=true:=by
 have hb:=vld_bounds h
 have ho:=pm_order h
 have hp:1≤pm a n:=by
  induction n with
  | zero=>rw [pm_zero];omega
  | succ k ih=>rw [pm_add,pm_one (by omega)];exact mod_pos' ih (pm_lt _ _) (by omega) (by omega)
 have e:pm (pm a n) 1073741789=1:=by
  generalize hq:(1073741789:Nat)=q at *
  rw [pm_pm,Nat.mul_comm,← pm_pm,ho,pm_one_base]
 rw [vld_iff hp (pm_lt _ _)]
 exact decide_eq_true e
theorem mulV_ok{a b:Int}(ha:vld a=true)(hb:vld b=true):mulV a b=a*b % 2147483579:=by simp [mulV,ha,hb]
theorem mulV_nat{a b:Nat}(ha:vld (a:Int)=true)(hb:vld (b:Int)=true):mulV a b=((a*b % 2147483579:Nat):Int):=by
 rw [mulV_ok ha hb];omega
theorem powV_ok{a n:Int}(ha:vld a=true):powV a n=((pm a.toNat (red n).toNat:Nat):Int):=by unfold powV;rw [if_pos ha]
theorem powV_nat{a:Nat}{n:Int}(ha:vld (a:Int)=true):powV a n=((pm a (red n).toNat:Nat):Int):=by rw [powV_ok ha,Int.toNat_natCast]
theorem vld_powV{a n:Int}(ha:vld a=true):vld (powV a n)=true:=by
 have h1:=vld_bounds ha
 obtain⟨x,rfl⟩:∃ k:Nat,a=k:=⟨a.toNat,by omega⟩
 rw [powV_nat ha]
 exact vld_pm_elem ha _
theorem red_toNat_add(m n:Int):((red m).toNat+(red n).toNat) % 1073741789=(red (m+n)).toNat:=by
 have h1:=red_bounds m
 have h2:=red_bounds n
 have h3:=red_bounds (m+n)
 unfold red at *
 omega
theorem red_mul(m n:Int):((red m).toNat*(red n).toNat) % 1073741789=(red (m*n)).toNat:=by
 have h1:=red_bounds m
 have h2:=red_bounds n
 have h3:=red_bounds (m*n)
 have:(((red m).toNat*(red n).toNat % 1073741789:Nat):Int)=red (m*n):=by
  rw [Int.natCast_emod,Int.natCast_mul,Int.toNat_of_nonneg h1.1,Int.toNat_of_nonneg h2.1]
  unfold red
  rw [show((1073741789:Nat):Int)=1073741789 from rfl,← Int.mul_emod]
 omega
theorem powV_add{a m n:Int}(ha:vld a=true):mulV (powV a m) (powV a n)=powV a (m+n):=by
 have h1:=vld_bounds ha
 obtain⟨x,rfl⟩:∃ k:Nat,a=k:=⟨a.toNat,by omega⟩
 have e1:=vld_powV (n:=m) ha
 have e2:=vld_powV (n:=n) ha
 rw [powV_nat ha]at e1 e2 ⊢
 rw [powV_nat ha,powV_nat ha,mulV_nat e1 e2,← pm_add,← pm_red ha,red_toNat_add]
theorem powV_powV{a m n:Int}(ha:vld a=true):powV (powV a m) n=powV a (m*n):=by
 have h1:=vld_bounds ha
 obtain⟨x,rfl⟩:∃ k:Nat,a=k:=⟨a.toNat,by omega⟩
 have e1:=vld_powV (n:=m) ha
 rw [powV_nat ha]at e1 ⊢
 rw [powV_nat e1,powV_nat ha,pm_pm,← pm_red ha,red_mul]
end Go.Proofs.YtidekfgkpindbaaDoor.Jac
namespace Go.Proofs.YtidekfgkpindbaaDoor
open Go Go.RowKit
theorem an_arg{W:World}{u:Value}{fs:List Anyv}(h:SX.Arg.rd W ⟨u,1,anL fs⟩):∃ A n c,u=.slice A n c∧Rd W 1 A n (anL fs)∧n≤c∧fs.length=n:=by
 unfold SX.Arg.rd at h
 split at h
 ·rename_i A n c hu
  have hu:u=.slice A n c:=hu
  refine⟨A,n,c,hu,h.1,h.2,?_⟩
  have:=h.1.1;simp only [anL_len]at this;omega
 cases h
def nonceT:ByteArray:=⟨#[110,111,110,99,101]⟩
def signT:ByteArray:=⟨#[115,105,103,110]⟩
def hashV(tag:ByteArray)(fl:List Fl):Int:=(hashN (tagE (sb tag) (encL fl)):Int)
theorem hashV_bd(tag:ByteArray)(fl:List Fl):0≤hashV tag fl∧hashV tag fl<1073741789:=by
 unfold hashV hashN
 omega
theorem encL_lt{l:List Fl}(h:∀ z∈l,z.fits)(hl:l.length≤1048576):(encL l).length<2 ^ 44:=by
 have h1:=encL_len h
 have h2:=numB_len 9 l.length (by omega)
 simp only [encL,List.length_cons,List.length_append]
 omega
theorem rem_q{x:Int}(h:0≤x):SX.binV .rem (.int .i64 x) (.int .i64 1073741789)=some (.int .i64 (x % 1073741789)):=by
 simp only [SX.binV,if_true]
 rw [if_neg (by decide),Int.tmod_eq_emod_of_nonneg h]
def tree_plus:SX.Tree :=
(.df (.bin .add 108) [(.q 0),(.q 1)] .one
(.df (.bin .rem 108) [(.q 2),(.i 1073741789)] .one
(.ret (.q 3) [] [])))
def args_plus:List SX.V:=[.x 0 [],.x 1 []]
set_option maxRecDepth 100000 in
theorem run_plus(K A:Value→Nat→List Value→Prop):(SX.run (cx0 K A) ⟨fun f=>true,[],0,100⟩ 100000 0 (SX.door 51 Tryd.f51 args_plus [.one,.one]) [.code (Tryd.f51.body.getD .skip),.top Tryd.f51]).strip=tree_plus:=by kernel_rfl
set_option maxRecDepth 100000 in
set_option maxHeartbeats 4000000 in
theorem plus_any(a n:Int)(w:World)(h1:0≤a)(h2:a<1073741789)(h3:0≤n)(h4:n<1073741789):Calls Tryd.prog 51 #[.int .i64 a,.int .i64 n] w fun e w'=>e=.returned (.int .i64 ((a+n) % 1073741789))∧Below w.heap.size w w':=by
 refine SX.calls_of_run (C:=cx0 (fun _ _ _=>False) (fun _ _ _=>False)) (G:=⟨fun f=>true,[],0,100⟩) (args:=args_plus) (sh:=[.one,.one]) (ρ:=[.int .i64 a,.int .i64 n]) 100000 tree_plus (cx0_ok _ _) Tryd.func51 rfl (run_plus _ _) (by kernel_rfl) (by kernel_rfl) (by kernel_rfl) ?_ ?_
 ·exact fun W _=>SX.Kf_none (fun _ _ _ h=>h) W
 unfold tree_plus
 refine SX.E (.int .i64 (a+n)) (fun α=>SX.W (a+n)) ?_
 refine SX.E (.int .i64 ((a+n) % 1073741789)) (fun α=>Eq.trans (b:=SX.binV .rem (.int .i64 (a+n)) (.int .i64 1073741789)) (by kernel_rfl) (rem_q (by omega))) ?_
 exact SX.F (.int .i64 ((a+n) % 1073741789)) (rfl)
theorem mul_q{a n:Int}(h1:0≤a)(h2:a<1073741789)(h3:0≤n)(h4:n<1073741789):0≤a*n∧a*n≤1152921439882018521:=by
 refine⟨Int.mul_nonneg h1 h3,Int.le_trans (Int.mul_le_mul (show a≤1073741789 by omega) (show n≤1073741789 by omega) h3 (by decide)) (by decide)⟩
def tree_times:SX.Tree :=
(.df (.bin .mul 108) [(.q 0),(.q 1)] .one
(.df (.bin .rem 108) [(.q 2),(.i 1073741789)] .one
(.ret (.q 3) [] [])))
def args_times:List SX.V:=[.x 0 [],.x 1 []]
set_option maxRecDepth 100000 in
theorem run_times(K A:Value→Nat→List Value→Prop):(SX.run (cx0 K A) ⟨fun f=>true,[],0,100⟩ 100000 0 (SX.door 52 Tryd.f52 args_times [.one,.one]) [.code (Tryd.f52.body.getD .skip),.top Tryd.f52]).strip=tree_times:=by kernel_rfl
set_option maxRecDepth 100000 in
set_option maxHeartbeats 4000000 in
theorem times_any(a n:Int)(w:World)(h1:0≤a)(h2:a<1073741789)(h3:0≤n)(h4:n<1073741789):Calls Tryd.prog 52 #[.int .i64 a,.int .i64 n] w fun e w'=>e=.returned (.int .i64 (a*n % 1073741789))∧Below w.heap.size w w':=by
 refine SX.calls_of_run (C:=cx0 (fun _ _ _=>False) (fun _ _ _=>False)) (G:=⟨fun f=>true,[],0,100⟩) (args:=args_times) (sh:=[.one,.one]) (ρ:=[.int .i64 a,.int .i64 n]) 100000 tree_times (cx0_ok _ _) Tryd.func52 rfl (run_times _ _) (by kernel_rfl) (by kernel_rfl) (by kernel_rfl) ?_ ?_
 ·exact fun W _=>SX.Kf_none (fun _ _ _ h=>h) W
 unfold tree_times
 refine SX.E (.int .i64 (a*n)) (fun α=>Eq.trans (b:=some (.int .i64 (IntKind.i64.wrap (a*n)))) (by kernel_rfl) (by rw [wrap_i64 (by have:=mul_q h1 h2 h3 h4;omega) (by have:=mul_q h1 h2 h3 h4;omega)])) ?_
 refine SX.E (.int .i64 ((a*n) % 1073741789)) (fun α=>Eq.trans (b:=SX.binV .rem (.int .i64 (a*n)) (.int .i64 1073741789)) (by kernel_rfl) (rem_q (mul_q h1 h2 h3 h4).1)) ?_
 exact SX.F (.int .i64 ((a*n) % 1073741789)) (rfl)
def RS0(f:FuncId)(xs:List SX.Arg)(v:Value):Prop :=
 (f=9∧∃ a n:Int,xs=[⟨.int .i64 a,0,[]⟩,⟨.int .i64 n,0,[]⟩]∧v=.tuple #[.int .i64 (Jac.powV a n),.int .i64 (Jac.mulE a a)])
def shpS0:FuncId→Option SX.Sh:=fun f=>if f=9 then some (.tp [.one,.one])else none
noncomputable def cxS0(K A:Value→Nat→List Value→Prop):SX.Cx:={ P:=Tryd.prog,R:=fun _=>RS0,shp:=shpS0,K:=K,A:=A }
theorem okS0(K A:Value→Nat→List Value→Prop):(cxS0 K A).Ok:=by
 refine SX.Cx.ok_of (fun _=>rfl) ?_
 intro K f xs v W hR hrd hKf
 rcases hR with ⟨rfl,a,n,rfl,rfl⟩
 exact(pow_any a n W).mono fun e w' h=>SX.plainOk rfl h
def tree_power:SX.Tree :=
(.df (.call 9 [.no,.no]) [(.q 0),(.q 1)] (.tp [.one,.one])
(.ret (.x 2 [0]) [] []))
def args_power:List SX.V:=[.x 0 [],.x 1 []]
set_option maxRecDepth 100000 in
theorem run_power(K A:Value→Nat→List Value→Prop):(SX.run (cxS0 K A) ⟨fun f=>true,[],0,100⟩ 100000 0 (SX.door 41 Tryd.f41 args_power [.one,.one]) [.code (Tryd.f41.body.getD .skip),.top Tryd.f41]).strip=tree_power:=by kernel_rfl
set_option maxRecDepth 100000 in
set_option maxHeartbeats 4000000 in
theorem power_anyS(a n:Int)(w:World)  : Calls Tryd.prog 41 #[.int .i64 a,.int .i64 n] w fun e w'=>e=.returned (.int .i64 (Jac.powV a n))∧Below w.heap.size w w':=by
 refine SX.calls_of_run (C:=cxS0 (fun _ _ _=>False) (fun _ _ _=>False)) (G:=⟨fun f=>true,[],0,100⟩) (args:=args_power) (sh:=[.one,.one]) (ρ:=[.int .i64 a,.int .i64 n]) 100000 tree_power (okS0 _ _) Tryd.func41 rfl (run_power _ _) (by kernel_rfl) (by kernel_rfl) (by kernel_rfl) ?_ ?_
 ·exact fun W _=>SX.Kf_none (fun _ _ _ h=>h) W
 unfold tree_power
 refine SX.E (.tuple #[.int .i64 ((Jac.powV a n)),.int .i64 ((Jac.mulE a a))]) (fun α=>⟨[⟨.int .i64 a,0,[]⟩,⟨.int .i64 n,0,[]⟩],⟨by kernel_rfl,by kernel_rfl,by kernel_rfl,by kernel_rfl,trivial⟩,⟨rfl,_,_,rfl,rfl⟩,SX.noAli rfl⟩) ?_
 exact SX.F (.int .i64 ((Jac.powV a n))) (rfl)
def RS2(K:Value→Nat→List Value→Prop)(f:FuncId)(xs:List SX.Arg)(v:Value):Prop :=
 (f=43∧∃ (u:Value) (fs:List Anyv),xs=[⟨u,1,anL fs⟩]∧fs.length≤1048576∧(∀ B m d tx,Anyv.s B m d tx∈fs→K (.slice B m d) 1 ((sb tx).flatMap c8))∧(∀ z∈fs,(flOf z).fits)∧v=.agg ((encL (fs.map flOf)).flatMap c8).toArray) ∨
 (f=42∧HashR K f xs v) ∨
 (f=41∧∃ a n:Int,xs=[⟨.int .i64 a,0,[]⟩,⟨.int .i64 n,0,[]⟩]∧v=.int .i64 (Jac.powV a n)) ∨
 (f=22∧∃ x:Int,xs=[⟨.int .i64 x,0,[]⟩]∧v=.bool (Jac.vld x)) ∨
 (f=40∧∃ a n:Int,xs=[⟨.int .i64 a,0,[]⟩,⟨.int .i64 n,0,[]⟩]∧v=.tuple #[.int .i64 (Jac.mulV a n),.int .i64 (Jac.mulE a n)]) ∨
 (f=51∧∃ a n:Int,xs=[⟨.int .i64 a,0,[]⟩,⟨.int .i64 n,0,[]⟩]∧0≤a∧a<1073741789∧0≤n∧n<1073741789∧v=.int .i64 ((a+n) % 1073741789)) ∨
 (f=52∧∃ a n:Int,xs=[⟨.int .i64 a,0,[]⟩,⟨.int .i64 n,0,[]⟩]∧0≤a∧a<1073741789∧0≤n∧n<1073741789∧v=.int .i64 (a*n % 1073741789))
def shpS2:FuncId→Option SX.Sh:=fun f=>if f=43 then some (.sl 1)else if f=42 then some .one else if f=41 then some .one else if f=22 then some .one else if f=40 then some (.tp [.one,.one])else if f=51 then some .one else if f=52 then some .one else none
noncomputable def cxS2(K A:Value→Nat→List Value→Prop):SX.Cx:={ P:=Tryd.prog,R:=RS2,shp:=shpS2,K:=K,A:=A,trm:=true }
theorem okS2(K A:Value→Nat→List Value→Prop):(cxS2 K A).Ok:=by
 refine SX.Cx.ok_of (fun _=>rfl) ?_
 intro K f xs v W hR hrd hKf
 rcases hR with ⟨rfl,u,fs,rfl,hl,htx,hfit,rfl⟩|⟨rfl,hR⟩|⟨rfl,a,n,rfl,rfl⟩|⟨rfl,x,rfl,rfl⟩|⟨rfl,a,n,rfl,rfl⟩|⟨rfl,a,n,rfl,h1,h2,h3,h4,rfl⟩|⟨rfl,a,n,rfl,h1,h2,h3,h4,rfl⟩
 ·refine Calls.mono ?_ fun e w' h=>SX.SlRet.ok1 rfl h
  obtain⟨A,n,c,rfl,h2,h3,h4⟩:=an_arg (hrd ⟨u,1,anL fs⟩ (by simp))
  exact slist_any fs A n c W h2 (by omega) h3 (fun B m d tx hm=>hKf _ _ _ (htx B m d tx hm)) hfit
 ·exact(hashR_calls hR hrd hKf).mono fun e w' h=>SX.plainOk rfl h
 ·exact(power_anyS a n W).mono fun e w' h=>SX.plainOk rfl h
 ·exact(valid_any x W).mono fun e w' h=>SX.plainOk rfl ⟨h.1,h.2▸Below.refl _ _⟩
 ·exact(mul_any a n W).mono fun e w' h=>SX.plainOk rfl ⟨h.1,h.2▸Below.refl _ _⟩
 ·exact(plus_any a n W h1 h2 h3 h4).mono fun e w' h=>SX.plainOk rfl h
 exact(times_any a n W h1 h2 h3 h4).mono fun e w' h=>SX.plainOk rfl h
def nonceV(secret:Int)(tx:ByteArray):Int:=max (hashV nonceT [.n secret,.s tx]) 1
def pointH(r key:Int)(tx:ByteArray):Int:=hashV signT [.n r,.n key,.s tx]
def signV(secret:Int)(tx:ByteArray):Int×Int×Int :=
 if secret<1∨1073741789≤secret then(0,0,110)
 else(pointH (Jac.powV 4 (nonceV secret tx)) (Jac.powV 4 secret) tx,(nonceV secret tx+pointH (Jac.powV 4 (nonceV secret tx)) (Jac.powV 4 secret) tx*secret % 1073741789) % 1073741789,0)
def verV(key:Int)(tx:ByteArray)(E S:Int):Bool :=
 if E<0∨S<0∨1073741789≤E∨1073741789≤S∨Jac.vld key=false then false
 else decide (E=pointH (Jac.mulV (Jac.powV 4 S) (Jac.powV key (-E))) key tx)
theorem nonceV_bd(secret:Int)(tx:ByteArray):1≤nonceV secret tx∧nonceV secret tx<1073741789:=by
 have:=hashV_bd nonceT [.n secret,.s tx]
 unfold nonceV
 omega
theorem pointH_bd(r key:Int)(tx:ByteArray):0≤pointH r key tx∧pointH r key tx<1073741789:=hashV_bd _ _
theorem powV_bd(a n:Int):0≤Jac.powV a n∧Jac.powV a n<2147483579:=by
 unfold Jac.powV
 split
 ·have:=Jac.pm_lt a.toNat (Jac.red n).toNat;omega
 omega
theorem mulV_bd(a b:Int):0≤Jac.mulV a b∧Jac.mulV a b<2147483579:=by
 unfold Jac.mulV
 split<;>omega
theorem max_int(x y:Int):SX.maxV (.int .i64 x) (.int .i64 y)=some (.int .i64 (max x y)):=by
 simp only [SX.maxV,if_true]
 congr 2
 show maxI _ _=_
 unfold maxI
 split<;>omega
theorem min_int(x y:Int):SX.minV (.int .i64 x) (.int .i64 y)=some (.int .i64 (min x y)):=by
 simp only [SX.minV,if_true]
 congr 2
 show minI _ _=_
 unfold minI
 split<;>omega
theorem encs_fit(l:List W8):SX.Sh.fit (.sl 1) (.agg (l.flatMap c8).toArray)=true:=by
 have h2:(l.flatMap c8).all (·.oneCell')=true:=by
  rw [List.all_eq_true]
  intro u hu
  obtain⟨a,_,h⟩:=List.mem_flatMap.1 hu
  exact c8o a u h
 have h1:(l.flatMap c8).length % 1=0:=Nat.mod_one _
 simp only [SX.Sh.fit,h1,h2]
 rfl
def tree_sign:SX.Tree :=
(.df (.bin .lss 3) [(.q 0),(.i 1)] .one
(.br 2 []
(.ret (.t [(.a [(.i 0),(.i 0)]),(.i 110)]) [] [])
(.df (.bin .geq 3) [(.q 0),(.i 1073741789)] .one
(.br 3 []
(.ret (.t [(.a [(.i 0),(.i 0)]),(.i 110)]) [] [])
(.df (.call 43 [(.own 1 [(.ifc 3 (.q 0)),(.ifc 57 (.q 1))])]) [(.sl 1 0 2 2)] (.sl 1)
(.df (.call 42 [.no,(.row 1 [(.q 4)])]) [(.k (.string ⟨#[110,111,110,99,101]⟩)),(.row 2)] .one
(.df .max [(.q 5),(.i 1)] .one
(.df (.call 41 [.no,.no]) [(.i 4),(.q 6)] .one
(.df (.call 41 [.no,.no]) [(.i 4),(.q 0)] .one
(.df (.call 43 [(.own 1 [(.ifc 3 (.q 7)),(.ifc 3 (.q 8)),(.ifc 57 (.q 1))])]) [(.sl 3 0 3 3)] (.sl 1)
(.df (.call 42 [.no,(.row 1 [(.q 9)])]) [(.k (.string ⟨#[115,105,103,110]⟩)),(.row 4)] .one
(.df (.call 52 [.no,.no]) [(.q 10),(.q 0)] .one
(.df (.bin .add 108) [(.q 6),(.q 11)] .one
(.df (.bin .rem 108) [(.q 12),(.i 1073741789)] .one
(.ret (.t [(.a [(.q 10),(.q 13)]),(.i 0)]) [] [])))))))))))))))
def args_sign:List SX.V:=[.x 0 [],.x 1 []]
set_option maxRecDepth 100000 in
theorem run_sign(K A:Value→Nat→List Value→Prop):(SX.run (cxS2 K A) ⟨fun f=>true,[],0,100⟩ 100000 0 (SX.door 21 Tryd.f21 args_sign [.one,.one]) [.code (Tryd.f21.body.getD .skip),.top Tryd.f21]).strip=tree_sign:=by kernel_rfl
set_option maxRecDepth 100000 in
set_option maxHeartbeats 4000000 in
theorem sign_any(secret:Int)(tx:ByteArray)(A:Option Addr)(n c:Nat)(w:World)(hr:Rd w 1 A n ((sb tx).flatMap c8))(hc:n≤c)(htx:tx.size≤1048576)(hlaid:Laid w):Calls Tryd.prog 21 #[.int .i64 secret,.slice A n c] w fun e w'=>e=.returned (.tuple #[.agg #[.int .i64 (signV secret tx).1,.int .i64 (signV secret tx).2.1],.int .i64 (signV secret tx).2.2])∧Below w.heap.size w w':=by
 refine SX.calls_of_run (C:=cxS2 (KS A n c (sb tx)) (fun _ _ _=>False)) (G:=⟨fun f=>true,[],0,100⟩) (args:=args_sign) (sh:=[.one,.one]) (ρ:=[.int .i64 secret,.slice A n c]) 100000 tree_sign (okS2 _ _) Tryd.func21 rfl (run_sign _ _) (by kernel_rfl) (by kernel_rfl) (by kernel_rfl) ?_ ?_
 ·rintro W hW s sz cells (⟨rfl,rfl,rfl⟩|⟨rfl,rfl,rfl⟩|⟨rfl,rfl,rfl⟩)
  ·exact⟨hr.same0 hW,hc⟩
  ·exact⟨hlaid.1.same0 hW,Nat.le_refl _⟩
  exact⟨hlaid.2.same0 hW,Nat.le_refl _⟩
 unfold tree_sign
 refine SX.D (.bool (decide (secret<1))) ?_
 refine SX.B (decide (secret<1)) (fun h2=>?_) (fun h2=>?_)
 ·try simp only [NRM]at h2
  exact SX.F (.tuple #[.agg #[.int .i64 0,.int .i64 0],.int .i64 110]) (by unfold signV;rw [if_pos (by omega)])
 try simp only [NRM]at h2
 refine SX.D (.bool (decide (secret≥1073741789))) ?_
 refine SX.B (decide (secret≥1073741789)) (fun h3=>?_) (fun h3=>?_)
 ·try simp only [NRM]at h3
  exact SX.F (.tuple #[.agg #[.int .i64 0,.int .i64 0],.int .i64 110]) (by unfold signV;rw [if_pos (by omega)])
 try simp only [NRM]at h3
 refine SX.VC_df (Value.agg ((encL [.n secret,.s tx]).flatMap c8).toArray) (fun α=>⟨[⟨.slice (some ⟨(α 1).b,0,none⟩) 2 2,1,anL [.n secret,.s A n c tx]⟩],⟨by kernel_rfl,trivial⟩,.inl ⟨rfl,_,[.n secret,.s A n c tx],rfl,by simp,fun B m d t h=>by simp only [List.mem_cons,List.not_mem_nil,or_false,reduceCtorEq,false_or,Anyv.s.injEq]at h;obtain⟨rfl,rfl,rfl,rfl⟩:=h;exact .inl ⟨rfl,rfl,rfl⟩,by intro z hz;simp only [List.mem_cons,List.not_mem_nil,or_false]at hz;rcases hz with rfl|rfl<;>simp only [flOf,Fl.fits]<;>omega,rfl⟩,SX.noAli rfl⟩) ((encs_fit _)) ?_
 refine SX.E (.int .i64 ((hashV nonceT [.n secret,.s tx]))) (fun α=>⟨[⟨.string nonceT,0,[]⟩,⟨(α 2).h,1,(encL [.n secret,.s tx]).flatMap c8⟩],⟨by kernel_rfl,by kernel_rfl,Eq.trans (b:=(⟨(α 2).h,1,[Value.agg ((encL [.n secret,.s tx]).flatMap c8).toArray].flatMap SX.cellsV⟩:SX.Arg)) (by simp [SX.cellsV]) (by kernel_rfl),trivial⟩,.inr (.inl ⟨rfl,rfl,⟨.inr (.inl ⟨rfl,rfl,rfl⟩),.inr (.inr ⟨rfl,rfl,rfl⟩)⟩,nonceT,_,encL [.n secret,.s tx],rfl,by decide,encL_lt (by intro z hz;simp only [List.mem_cons,List.not_mem_nil,or_false]at hz;rcases hz with rfl|rfl<;>simp only [Fl.fits]<;>omega) (by simp),rfl⟩),SX.noAli rfl⟩) ?_
 refine SX.E (.int .i64 ((nonceV secret tx))) (fun α=>Eq.trans (b:=SX.maxV (.int .i64 (hashV nonceT [.n secret,.s tx])) (.int .i64 1)) (by kernel_rfl) (max_int _ _)) ?_
 have hkb:=nonceV_bd secret tx
 have hp1:=powV_bd 4 (nonceV secret tx)
 have hp2:=powV_bd 4 secret
 refine SX.E (.int .i64 ((Jac.powV 4 ((nonceV secret tx))))) (fun α=>⟨[⟨.int .i64 4,0,[]⟩,⟨.int .i64 ((nonceV secret tx)),0,[]⟩],⟨by kernel_rfl,by kernel_rfl,by kernel_rfl,by kernel_rfl,trivial⟩,.inr (.inr (.inl ⟨rfl,_,_,rfl,rfl⟩)),SX.noAli rfl⟩) ?_
 refine SX.E (.int .i64 ((Jac.powV 4 secret))) (fun α=>⟨[⟨.int .i64 4,0,[]⟩,⟨.int .i64 secret,0,[]⟩],⟨by kernel_rfl,by kernel_rfl,by kernel_rfl,by kernel_rfl,trivial⟩,.inr (.inr (.inl ⟨rfl,_,_,rfl,rfl⟩)),SX.noAli rfl⟩) ?_
 refine SX.VC_df (Value.agg ((encL [.n ((Jac.powV 4 ((nonceV secret tx)))),.n ((Jac.powV 4 secret)),.s tx]).flatMap c8).toArray) (fun α=>⟨[⟨.slice (some ⟨(α 3).b,0,none⟩) 3 3,1,anL [.n ((Jac.powV 4 ((nonceV secret tx)))),.n ((Jac.powV 4 secret)),.s A n c tx]⟩],⟨by kernel_rfl,trivial⟩,.inl ⟨rfl,_,[.n ((Jac.powV 4 ((nonceV secret tx)))),.n ((Jac.powV 4 secret)),.s A n c tx],rfl,by simp,fun B m d t h=>by simp only [List.mem_cons,List.not_mem_nil,or_false,reduceCtorEq,false_or,Anyv.s.injEq]at h;obtain⟨rfl,rfl,rfl,rfl⟩:=h;exact .inl ⟨rfl,rfl,rfl⟩,by intro z hz;simp only [List.mem_cons,List.not_mem_nil,or_false]at hz;rcases hz with rfl|rfl|rfl<;>simp only [flOf,Fl.fits]<;>omega,rfl⟩,SX.noAli rfl⟩) ((encs_fit _)) ?_
 refine SX.E (.int .i64 ((hashV signT [.n ((Jac.powV 4 ((nonceV secret tx)))),.n ((Jac.powV 4 secret)),.s tx]))) (fun α=>⟨[⟨.string signT,0,[]⟩,⟨(α 4).h,1,(encL [.n ((Jac.powV 4 ((nonceV secret tx)))),.n ((Jac.powV 4 secret)),.s tx]).flatMap c8⟩],⟨by kernel_rfl,by kernel_rfl,Eq.trans (b:=(⟨(α 4).h,1,[Value.agg ((encL [.n ((Jac.powV 4 ((nonceV secret tx)))),.n ((Jac.powV 4 secret)),.s tx]).flatMap c8).toArray].flatMap SX.cellsV⟩:SX.Arg)) (by simp [SX.cellsV]) (by kernel_rfl),trivial⟩,.inr (.inl ⟨rfl,rfl,⟨.inr (.inl ⟨rfl,rfl,rfl⟩),.inr (.inr ⟨rfl,rfl,rfl⟩)⟩,signT,_,encL [.n ((Jac.powV 4 ((nonceV secret tx)))),.n ((Jac.powV 4 secret)),.s tx],rfl,by decide,encL_lt (by intro z hz;simp only [List.mem_cons,List.not_mem_nil,or_false]at hz;rcases hz with rfl|rfl|rfl<;>simp only [Fl.fits]<;>omega) (by simp),rfl⟩),SX.noAli rfl⟩) ?_
 have heb:=pointH_bd (Jac.powV 4 (nonceV secret tx)) (Jac.powV 4 secret) tx
 have hes:=hashV_bd signT [.n (Jac.powV 4 (nonceV secret tx)),.n (Jac.powV 4 secret),.s tx]
 refine SX.E (.int .i64 ((((hashV signT [.n ((Jac.powV 4 ((nonceV secret tx)))),.n ((Jac.powV 4 secret)),.s tx]))*secret % 1073741789))) (fun α=>⟨[⟨.int .i64 ((hashV signT [.n ((Jac.powV 4 ((nonceV secret tx)))),.n ((Jac.powV 4 secret)),.s tx])),0,[]⟩,⟨.int .i64 secret,0,[]⟩],⟨by kernel_rfl,by kernel_rfl,by kernel_rfl,by kernel_rfl,trivial⟩,.inr (.inr (.inr (.inr (.inr (.inr (⟨rfl,_,_,rfl,by omega,by omega,by omega,by omega,rfl⟩)))))),SX.noAli rfl⟩) ?_
 have hub:=Int.emod_nonneg ((hashV signT [.n (Jac.powV 4 (nonceV secret tx)),.n (Jac.powV 4 secret),.s tx])*secret) (show(1073741789:Int)≠0 by decide)
 have hub2:=Int.emod_lt_of_pos ((hashV signT [.n (Jac.powV 4 (nonceV secret tx)),.n (Jac.powV 4 secret),.s tx])*secret) (show(0:Int)<1073741789 by decide)
 refine SX.E (.int .i64 (((nonceV secret tx))+((((hashV signT [.n ((Jac.powV 4 ((nonceV secret tx)))),.n ((Jac.powV 4 secret)),.s tx]))*secret % 1073741789)))) (fun α=>Eq.trans (b:=some (.int .i64 (IntKind.i64.wrap (((nonceV secret tx))+((((hashV signT [.n ((Jac.powV 4 ((nonceV secret tx)))),.n ((Jac.powV 4 secret)),.s tx]))*secret % 1073741789)))))) (by kernel_rfl) (by rw [wrap_i64 (by omega) (by omega)])) ?_
 refine SX.E (.int .i64 ((((nonceV secret tx))+((((hashV signT [.n ((Jac.powV 4 ((nonceV secret tx)))),.n ((Jac.powV 4 secret)),.s tx]))*secret % 1073741789))) % 1073741789)) (fun α=>Eq.trans (b:=SX.binV .rem (.int .i64 (((nonceV secret tx))+((((hashV signT [.n ((Jac.powV 4 ((nonceV secret tx)))),.n ((Jac.powV 4 secret)),.s tx]))*secret % 1073741789)))) (.int .i64 1073741789)) (by kernel_rfl) (rem_q (by omega))) ?_
 exact SX.F (.tuple #[.agg #[.int .i64 ((hashV signT [.n ((Jac.powV 4 ((nonceV secret tx)))),.n ((Jac.powV 4 secret)),.s tx])),.int .i64 ((((nonceV secret tx))+((((hashV signT [.n ((Jac.powV 4 ((nonceV secret tx)))),.n ((Jac.powV 4 secret)),.s tx]))*secret % 1073741789))) % 1073741789)],.int .i64 0]) (by unfold signV;rw [if_neg (by omega)];rfl)
def tree_verify:SX.Tree :=
(.df .min [(.q 2),(.q 3)] .one
(.df (.bin .lss 3) [(.q 4),(.i 0)] .one
(.br 5 []
(.ret (.k (.bool false)) [] [])
(.df .max [(.q 2),(.q 3)] .one
(.df (.bin .geq 3) [(.q 6),(.i 1073741789)] .one
(.br 7 []
(.ret (.k (.bool false)) [] [])
(.df (.call 22 [.no]) [(.q 0)] .one
(.df .not [(.q 8)] .one
(.br 9 []
(.ret (.k (.bool false)) [] [])
(.df (.call 41 [.no,.no]) [(.i 4),(.q 3)] .one
(.df .neg [(.q 2)] .one
(.df (.call 41 [.no,.no]) [(.q 0),(.q 11)] .one
(.df (.call 40 [.no,.no]) [(.q 10),(.q 12)] (.tp [.one,.one])
(.df (.call 43 [(.own 1 [(.ifc 3 (.x 13 [0])),(.ifc 3 (.q 0)),(.ifc 57 (.q 1))])]) [(.sl 9 0 3 3)] (.sl 1)
(.df (.call 42 [.no,(.row 1 [(.q 14)])]) [(.k (.string ⟨#[115,105,103,110]⟩)),(.row 10)] .one
(.df (.bin .eql 3) [(.q 2),(.q 15)] .one
(.ret (.q 16) [] [])))))))))))))))))
def args_verify:List SX.V:=[.x 0 [],.x 1 [],.a [.x 2 [],.x 3 []]]
set_option maxRecDepth 100000 in
theorem run_verify(K A:Value→Nat→List Value→Prop):(SX.run (cxS2 K A) ⟨fun f=>true,[],0,100⟩ 100000 0 (SX.door 16 Tryd.f16 args_verify (List.replicate 4 .one)) [.code (Tryd.f16.body.getD .skip),.top Tryd.f16]).strip=tree_verify:=by kernel_rfl
set_option maxRecDepth 100000 in
set_option maxHeartbeats 4000000 in
theorem verify_any(key:Int)(tx:ByteArray)(A:Option Addr)(n c:Nat)(E S:Int)(w:World)(hr:Rd w 1 A n ((sb tx).flatMap c8))(hc:n≤c)(htx:tx.size≤1048576)(hlaid:Laid w):Calls Tryd.prog 16 #[.int .i64 key,.slice A n c,.agg #[.int .i64 E,.int .i64 S]] w fun e w'=>e=.returned (.bool (verV key tx E S))∧Below w.heap.size w w':=by
 refine SX.calls_of_run (C:=cxS2 (KS A n c (sb tx)) (fun _ _ _=>False)) (G:=⟨fun f=>true,[],0,100⟩) (args:=args_verify) (sh:=(List.replicate 4 .one)) (ρ:=[.int .i64 key,.slice A n c,.int .i64 E,.int .i64 S]) 100000 tree_verify (okS2 _ _) Tryd.func16 rfl (run_verify _ _) (by kernel_rfl) (by kernel_rfl) (by kernel_rfl) ?_ ?_
 ·rintro W hW s sz cells (⟨rfl,rfl,rfl⟩|⟨rfl,rfl,rfl⟩|⟨rfl,rfl,rfl⟩)
  ·exact⟨hr.same0 hW,hc⟩
  ·exact⟨hlaid.1.same0 hW,Nat.le_refl _⟩
  exact⟨hlaid.2.same0 hW,Nat.le_refl _⟩
 unfold tree_verify
 refine SX.E (.int .i64 ((min E S))) (fun α=>Eq.trans (b:=SX.minV (.int .i64 E) (.int .i64 S)) (by kernel_rfl) (min_int _ _)) ?_
 refine SX.D (.bool (decide ((min E S)<0))) ?_
 refine SX.B (decide ((min E S)<0)) (fun h5=>?_) (fun h5=>?_)
 ·try simp only [NRM]at h5
  exact SX.F (.bool false) (by unfold verV;rw [if_pos (by first|omega|(right;right;right;right;simpa using h9))])
 try simp only [NRM]at h5
 refine SX.E (.int .i64 ((max E S))) (fun α=>Eq.trans (b:=SX.maxV (.int .i64 E) (.int .i64 S)) (by kernel_rfl) (max_int _ _)) ?_
 refine SX.D (.bool (decide ((max E S)≥1073741789))) ?_
 refine SX.B (decide ((max E S)≥1073741789)) (fun h7=>?_) (fun h7=>?_)
 ·try simp only [NRM]at h7
  exact SX.F (.bool false) (by unfold verV;rw [if_pos (by first|omega|(right;right;right;right;simpa using h9))])
 try simp only [NRM]at h7
 refine SX.E (.bool (Jac.vld key)) (fun α=>⟨[⟨.int .i64 key,0,[]⟩],⟨by kernel_rfl,by kernel_rfl,trivial⟩,.inr (.inr (.inr (.inl ⟨rfl,_,rfl,rfl⟩))),SX.noAli rfl⟩) ?_
 refine SX.D (.bool (!(Jac.vld key))) ?_
 refine SX.B (!(Jac.vld key)) (fun h9=>?_) (fun h9=>?_)
 ·try simp only [NRM]at h9
  exact SX.F (.bool false) (by unfold verV;rw [if_pos (by first|omega|(right;right;right;right;simpa using h9))])
 try simp only [NRM]at h9
 refine SX.E (.int .i64 ((Jac.powV 4 S))) (fun α=>⟨[⟨.int .i64 4,0,[]⟩,⟨.int .i64 S,0,[]⟩],⟨by kernel_rfl,by kernel_rfl,by kernel_rfl,by kernel_rfl,trivial⟩,.inr (.inr (.inl ⟨rfl,_,_,rfl,rfl⟩)),SX.noAli rfl⟩) ?_
 refine SX.E (.int .i64 (-E)) (fun α=>SX.W (-E)) ?_
 refine SX.E (.int .i64 ((Jac.powV key (-E)))) (fun α=>⟨[⟨.int .i64 key,0,[]⟩,⟨.int .i64 (-E),0,[]⟩],⟨by kernel_rfl,by kernel_rfl,by kernel_rfl,by kernel_rfl,trivial⟩,.inr (.inr (.inl ⟨rfl,_,_,rfl,rfl⟩)),SX.noAli rfl⟩) ?_
 refine SX.E (.tuple #[.int .i64 ((Jac.mulV ((Jac.powV 4 S)) ((Jac.powV key (-E))))),.int .i64 ((Jac.mulE ((Jac.powV 4 S)) ((Jac.powV key (-E)))))]) (fun α=>⟨[⟨.int .i64 ((Jac.powV 4 S)),0,[]⟩,⟨.int .i64 ((Jac.powV key (-E))),0,[]⟩],⟨by kernel_rfl,by kernel_rfl,by kernel_rfl,by kernel_rfl,trivial⟩,.inr (.inr (.inr (.inr (.inl ⟨rfl,_,_,rfl,rfl⟩)))),SX.noAli rfl⟩) ?_
 have hmb:=mulV_bd (Jac.powV 4 S) (Jac.powV key (-E))
 have hvk:=Jac.vld_bounds (show Jac.vld key=true by simpa using h9)
 refine SX.VC_df (Value.agg ((encL [.n ((Jac.mulV ((Jac.powV 4 S)) ((Jac.powV key (-E))))),.n key,.s tx]).flatMap c8).toArray) (fun α=>⟨[⟨.slice (some ⟨(α 9).b,0,none⟩) 3 3,1,anL [.n ((Jac.mulV ((Jac.powV 4 S)) ((Jac.powV key (-E))))),.n key,.s A n c tx]⟩],⟨by kernel_rfl,trivial⟩,.inl ⟨rfl,_,[.n ((Jac.mulV ((Jac.powV 4 S)) ((Jac.powV key (-E))))),.n key,.s A n c tx],rfl,by simp,fun B m d t h=>by simp only [List.mem_cons,List.not_mem_nil,or_false,reduceCtorEq,false_or,Anyv.s.injEq]at h;obtain⟨rfl,rfl,rfl,rfl⟩:=h;exact .inl ⟨rfl,rfl,rfl⟩,by intro z hz;simp only [List.mem_cons,List.not_mem_nil,or_false]at hz;rcases hz with rfl|rfl|rfl<;>simp only [flOf,Fl.fits]<;>omega,rfl⟩,SX.noAli rfl⟩) ((encs_fit _)) ?_
 refine SX.E (.int .i64 ((hashV signT [.n ((Jac.mulV ((Jac.powV 4 S)) ((Jac.powV key (-E))))),.n key,.s tx]))) (fun α=>⟨[⟨.string signT,0,[]⟩,⟨(α 10).h,1,(encL [.n ((Jac.mulV ((Jac.powV 4 S)) ((Jac.powV key (-E))))),.n key,.s tx]).flatMap c8⟩],⟨by kernel_rfl,by kernel_rfl,Eq.trans (b:=(⟨(α 10).h,1,[Value.agg ((encL [.n ((Jac.mulV ((Jac.powV 4 S)) ((Jac.powV key (-E))))),.n key,.s tx]).flatMap c8).toArray].flatMap SX.cellsV⟩:SX.Arg)) (by simp [SX.cellsV]) (by kernel_rfl),trivial⟩,.inr (.inl ⟨rfl,rfl,⟨.inr (.inl ⟨rfl,rfl,rfl⟩),.inr (.inr ⟨rfl,rfl,rfl⟩)⟩,signT,_,encL [.n ((Jac.mulV ((Jac.powV 4 S)) ((Jac.powV key (-E))))),.n key,.s tx],rfl,by decide,encL_lt (by intro z hz;simp only [List.mem_cons,List.not_mem_nil,or_false]at hz;rcases hz with rfl|rfl|rfl<;>simp only [Fl.fits]<;>omega) (by simp),rfl⟩),SX.noAli rfl⟩) ?_
 refine SX.D (.bool ((E:Int) == (hashV signT [.n ((Jac.mulV ((Jac.powV 4 S)) ((Jac.powV key (-E))))),.n key,.s tx]))) ?_
 exact SX.F (.bool ((E:Int) == (hashV signT [.n ((Jac.mulV ((Jac.powV 4 S)) ((Jac.powV key (-E))))),.n key,.s tx]))) (by unfold verV;rw [if_neg (by rintro(q|q|q|q|q)<;>first|omega|(simp [q]at h9))];rfl)
end Go.Proofs.YtidekfgkpindbaaDoor
namespace Go.Proofs
open Go.Shelf
def Tryd.lays137_ren:Go.Shelf.Ren:=⟨fun|137=>89|217=>101|266=>103|n=>n,fun|9=>9|5=>5|3=>3|n=>n,fun|n=>n⟩
theorem Tryd.lays137:Go.Proofs.Lays.n137 Tryd.prog Tryd.lays137_ren:={
 mixed:=by kernel_rfl
 f137:=Tryd.func89.trans (congrArg some (by kernel_rfl))
 f217:=Tryd.func101.trans (congrArg some (by kernel_rfl))
 f266:=Tryd.func103.trans (congrArg some (by kernel_rfl))
 t3:=Tryd.underlying3
 a3:=Tryd.isAgg3
 z3:=Tryd.sizeOf3
 v3:=Tryd.zeroValue3
 t5:=Tryd.underlying5
 a5:=Tryd.isAgg5
 z5:=Tryd.sizeOf5
 v5:=Tryd.zeroValue5
 t9:=Tryd.underlying9
 a9:=Tryd.isAgg9
 z9:=Tryd.sizeOf9
 v9:=Tryd.zeroValue9 }
open Go.RowKit in
theorem Tryd.strings_IndexByte(s:ByteArray)(c:Int)(w:World) :
 Calls Tryd.prog 89 #[.string s,.int .u8 c] w fun e w'=>e=.returned (.int .i64 (Lib.indexByte s.data.toList c.toNat.toUInt8))∧w'=w:=Any.strings_IndexByte Tryd.lays137 s c w
open Go.RowKit Go.Lib in
open Go.Proofs Go.RowKit Go.Lib in
def Tryd.laysSlJ14_ren:Go.Shelf.Ren:=⟨fun|14=>90|15=>102|n=>n,fun|26=>68|22=>57|3=>3|4=>4|0=>0|9=>9|20=>20|5=>5|n=>n,fun|n=>n⟩
theorem Tryd.laysSlJ14:Go.Proofs.SlLaysJ.n14 Tryd.prog Tryd.laysSlJ14_ren:={
 mixed:=by kernel_rfl
 f14:=Tryd.func90.trans (congrArg some (by kernel_rfl))
 f15:=Tryd.func102.trans (congrArg some (by kernel_rfl))
 t0:=Tryd.underlying0
 a0:=Tryd.isAgg0
 z0:=Tryd.sizeOf0
 v0:=Tryd.zeroValue0
 t3:=Tryd.underlying3
 a3:=Tryd.isAgg3
 z3:=Tryd.sizeOf3
 v3:=Tryd.zeroValue3
 t4:=Tryd.underlying4
 a4:=Tryd.isAgg4
 z4:=Tryd.sizeOf4
 v4:=Tryd.zeroValue4
 t9:=Tryd.underlying9
 a9:=Tryd.isAgg9
 z9:=Tryd.sizeOf9
 v9:=Tryd.zeroValue9
 t20:=Tryd.underlying20
 a20:=Tryd.isAgg20
 z20:=Tryd.sizeOf20
 v20:=Tryd.zeroValue20
 t22:=Tryd.underlying57
 a22:=Tryd.isAgg57
 z22:=Tryd.sizeOf57
 v22:=Tryd.zeroValue57
 t26:=Tryd.underlying68
 a26:=Tryd.isAgg68
 z26:=Tryd.sizeOf68
 v26:=Tryd.zeroValue68
 t5:=Tryd.underlying5
 z5:=Tryd.sizeOf5
 i5:=by kernel_rfl }
open Go.RowKit Go.Lib in
theorem Tryd.bytes_Join_many(b o n c:Nat)(vs:List Value)(ls:List (List UInt8))(sv:Value)(sep:List UInt8)(w:World)(hn:ls.length=n)(h2:2≤n)(hP:Lib.PartsAt w ⟨b,o,none⟩ vs ls)(hcap:n≤c)(hS:Lib.HoldsBytes w sv sep)(hn47:n≤140737488355328)(hlen:Lib.lens ls+sep.length*(n-1)≤140737488355328) :
 Calls Tryd.prog 90 #[.slice (some ⟨b,o,none⟩) n c,sv] w fun e w'=>∃ v',e=.returned v'∧Lib.FreshBytes w.heap.size w' v' (Lib.join ls sep)∧Below w.heap.size w w':=Any.bytes_Join_many Tryd.laysSlJ14 b o n c vs ls sv sep w hn h2 hP hcap hS hn47 hlen
open Go.RowKit Go.Lib in
open Go.RowKit Go.Lib in
theorem Tryd.bytes_Join_one(b o c:Nat)(ad0:Addr)(c0:Nat)(l0:List UInt8)(sv:Value)(w:World)(hcell:w.cell? ⟨b,o,none⟩=some (.slice (some ad0) l0.length c0))(hc:∀ (i:Nat) x,l0[i]?=some x→w.cell? (ad0.add i)=some (.int .u8 (x.toNat:Int)))(h0:0<l0.length)(hs:l0.length≤140737488355328) :
 Calls Tryd.prog 90 #[.slice (some ⟨b,o,none⟩) 1 c,sv] w fun e w'=>∃ v',e=.returned v'∧Lib.FreshBytes w.heap.size w' v' l0∧Below w.heap.size w w':=Any.bytes_Join_one Tryd.laysSlJ14 b o c ad0 c0 l0 sv w hcell hc h0 hs
open Go.RowKit Go.Lib in
theorem Tryd.bytes_Join_one_empty(b o c:Nat)(p0:Option Addr)(c0:Nat)(sv:Value)(w:World)(hcell:w.cell? ⟨b,o,none⟩=some (.slice p0 0 c0)) :
 Calls Tryd.prog 90 #[.slice (some ⟨b,o,none⟩) 1 c,sv] w fun e w'=>e=.returned (.slice none 0 0)∧w'=w:=Any.bytes_Join_one_empty Tryd.laysSlJ14 b o c p0 c0 sv w hcell
end Go.Proofs
namespace Go.Proofs.YtidekfgkpindbaaDoor
open Go Go.RowKit
abbrev Dg:=Nat→W8
def dgL(f:Dg):List W8:=(List.range 32).map f
def cellsDg(f:Dg):List Value:=(List.range 32).map fun j=>w8 (f j)
def dgV(f:Dg):Value:=.agg (cellsDg f).toArray
def dgF(d:List W8)(j:Nat):W8:=d.getD j 0
theorem dgL_len(f:Dg):(dgL f).length=32:=rfl
theorem dg_flat(f:Dg):(dgL f).flatMap c8=cellsDg f:=rfl
theorem cellsDg_one(f:Dg):∀ u∈cellsDg f,u.oneCell'=true:=by
 intro u hu
 obtain⟨j,_,rfl⟩:=List.mem_map.1 hu
 rfl
def dgs(l:List Dg):List Value:=l.flatMap cellsDg
theorem dgs_len(l:List Dg):(dgs l).length=l.length*32:=SX.flat_len (f:=cellsDg) (fun _=>rfl) l
theorem dg_get{d:List W8}(h:d.length=32):dgL (dgF d)=d:=by
 apply List.ext_getElem
 ·rw [dgL_len,h]
 intro i h1 h2
 simp only [dgL,dgF,List.getElem_map,List.getElem_range,List.getD_eq_getElem?_getD,List.getElem?_eq_getElem h2,Option.getD_some]
theorem dg_val{d:List W8}(h:d.length=32):Value.agg (d.flatMap c8).toArray=dgV (dgF d):=by
 conv=>lhs;rw [← dg_get h]
 rfl
def dgH(l:List W8):Dg:=dgF (sumE l)
theorem dgH_val(l:List W8):Value.agg ((sumE l).flatMap c8).toArray=dgV (dgH l):=dg_val rfl
theorem dgH_L(l:List W8):dgL (dgH l)=sumE l:=dg_get rfl
def leafT:ByteArray:=⟨#[108,101,97,102]⟩
def nodeT:ByteArray:=⟨#[110,111,100,101]⟩
def lfX(b:List W8):List W8:=sumE (sb leafT)++b
def ndX(x y:Dg):List W8:=sumE (sb nodeT)++(dgL x++dgL y)
def u8L(l:List W8):List UInt8:=l.map UInt8.ofBitVec
theorem u8L_len(l:List W8):(u8L l).length=l.length:=by simp [u8L]
theorem u8L_at{l:List W8}{i:Nat}{x:UInt8}(h:(u8L l)[i]?=some x):∃ b,l[i]?=some b∧(x.toNat:Int)=(b.toNat:Int):=by
 unfold u8L at h
 rw [List.getElem?_map,Option.map_eq_some_iff]at h
 obtain⟨b,h1,rfl⟩:=h
 exact⟨b,h1,rfl⟩
theorem c8_at{l:List W8}{i:Nat}{b:W8}(h:l[i]?=some b):(l.flatMap c8)[i]?=some (w8 b):=by rw [flat_c8,List.getElem?_map,h];rfl
theorem holds_of{w:World}{v:Value}{l:List W8}(h:SX.Arg.rd w ⟨v,1,l.flatMap c8⟩):Lib.HoldsBytes w v (u8L l):=by
 unfold SX.Arg.rd at h
 split at h
 ·rename_i A n c hv
  have hv:v=.slice A n c:=hv
  subst hv
  obtain⟨h1,h2⟩:=h.1
  rw [SX.flat_len (f:=c8) c8_len,Nat.mul_one,Nat.mul_one]at h1
  refine⟨A,c,by rw [u8L_len,h1],fun hA=>?_,fun a ha i x hx=>?_⟩
  ·rcases Nat.eq_zero_or_pos n with h0|h0
   ·rw [h0]at h1;rw [List.eq_nil_of_length_eq_zero h1];rfl
   obtain⟨ad,h3,_⟩:=h2 h0
   rw [hA]at h3;cases h3
  obtain⟨b,hb,hx2⟩:=u8L_at hx
  have hn:0<n:=by have:=(List.getElem?_eq_some_iff.1 hb).1;omega
  obtain⟨ad,h3,_,h4⟩:=h2 hn
  rw [ha]at h3;cases h3
  rw [h4 i _ (c8_at hb),hx2];rfl
 cases h
theorem cell_lt{W:World}{a:Addr}{v:Value}(h:W.cell? a=some v):a.block<W.heap.size:=by
 unfold World.cell? at h
 split at h
 ·rename_i c t f hc
  exact(Array.getElem?_eq_some_iff.1 hc).1
 cases h
theorem fresh_ret{w w':World}{v:Value}{l:List W8}(h:Lib.FreshBytes w.heap.size w' v (u8L l)):SX.SlRet w w' [] v 1 (l.flatMap c8):=by
 obtain⟨g,cap,zs,rfl,hg,hl,hm,hz,hb,hby,hc,hf⟩:=h
 rw [u8L_len]at hl hby ⊢
 have hlen:(l.flatMap c8).length=l.length*1:=SX.flat_len (f:=c8) c8_len l
 refine⟨⟨_,_,_,rfl,hl⟩,⟨⟨hlen,fun hn=>?_⟩,hl⟩,.inl fun ad n c e hn=>by cases e;exact hg⟩
 have hcell:∀ j u,(l.flatMap c8)[j]?=some u→w'.cell? ((⟨g,0,none⟩:Addr).add j)=some u:=fun j u hu=>by
  have hj:=(List.getElem?_eq_some_iff.1 hu).1
  rw [hlen,Nat.mul_one]at hj
  rw [Addr.add_lit,Nat.zero_add,hc j (by omega)]
  have h1:(Lib.bytesOf (zs.take l.length))[j]?=(u8L l)[j]?:=by rw [hby]
  have hlj:=List.getElem?_eq_getElem hj
  have hzj:zs[j]?=some (zs[j]'(by omega)):=List.getElem?_eq_getElem _
  unfold Lib.bytesOf u8L at h1
  rw [List.getElem?_map,List.getElem?_map,List.getElem?_take,if_pos hj,hzj,hlj]at h1
  simp only [Option.map_some,Option.some.injEq]at h1
  have hz2:=hb _ (List.mem_of_getElem? hzj)
  rw [c8_at hlj]at hu
  cases hu
  rw [List.getD_eq_getElem?_getD,hzj,Option.getD_some]
  have h2:(UInt8.ofNat (zs[j]'(by omega)).toNat).toNat=(UInt8.ofBitVec l[j]).toNat:=by rw [h1]
  have h3:(UInt8.ofNat (zs[j]'(by omega)).toNat).toNat=(zs[j]'(by omega)).toNat:=by
   rw [UInt8.toNat_ofNat'];omega
  have h4:(UInt8.ofBitVec l[j]).toNat=(l[j]).toNat:=rfl
  rw [h3,h4]at h2
  show some (Value.int .u8 _)=some (Value.int .u8 _)
  congr 2;omega
 obtain⟨u,hu⟩:∃ u,(l.flatMap c8)[0]?=some u:=⟨_,List.getElem?_eq_getElem (by omega)⟩
 exact⟨_,rfl,cell_lt (hcell 0 u hu),hcell⟩
abbrev Pb:=Value×List W8
theorem join_any(ps:List Pb)(b o n c:Nat)(w:World)(hr:Rd w 1 (some ⟨b,o,none⟩) n (ps.map (·.1)))(hc:n≤c)(hp:∀ p∈ps,SX.Arg.rd w ⟨p.1,1,p.2.flatMap c8⟩)(h1:1≤ps.length)(h2:ps.length≤1048576)(hlen:(ps.map (·.2.length)).sum≤140737488355328) :
 Calls Tryd.prog 90 #[.slice (some ⟨b,o,none⟩) n c,.slice none 0 0] w fun e w'=>Below w.heap.size w w'∧∃ hdr,e=.returned hdr∧SX.SlRet w w' [] hdr 1 ((ps.flatMap (·.2)).flatMap c8):=by
 have hn:ps.length=n:=by have:=hr.1;simpa using this
 have hcell:∀ (i:Nat) (v:Value),(ps.map (·.1))[i]?=some v→w.cell? ((⟨b,o,none⟩:Addr).add i)=some v:=fun i v hv=>by
  have h0:0<n:=by have:=(List.getElem?_eq_some_iff.1 hv).1;simp at this;omega
  obtain⟨ad,e,_,h⟩:=hr.2 h0
  cases e
  exact h i v hv
 match ps,h1,hr,hp,hn,hcell,hlen with
 | [p],_,hr,hp,hn,hcell,hlen =>
  simp only [List.length_singleton]at hn
  subst hn
  obtain⟨A,d,hv,hA,hby⟩:=holds_of (hp p (List.mem_singleton.2 rfl))
  have hc0:=hcell 0 p.1 rfl
  rw [Addr.add_lit,Nat.add_zero,hv]at hc0
  rcases hl:p.2 with _|⟨x,l⟩
  ·rw [hl]at hc0
   refine(Tryd.bytes_Join_one_empty b o c A d (.slice none 0 0) w hc0).mono fun e w' h=>?_
   obtain⟨rfl,rfl⟩:=h
   refine⟨Below.refl _ _,_,rfl,?_⟩
   simp only [List.flatMap_cons,List.flatMap_nil,hl,List.append_nil]
   exact SX.SlRet.nil
  have h0:0<(u8L p.2).length:=by rw [u8L_len,hl];simp
  obtain⟨ad,rfl⟩:∃ ad,A=some ad:=by
   cases A with
   | some ad=>exact⟨ad,rfl⟩
   | none=>rw [hA rfl]at h0;cases h0
  refine(Tryd.bytes_Join_one b o c ad d (u8L p.2) (.slice none 0 0) w hc0 (fun i x hx=>hby ad rfl i x hx) h0 (by rw [u8L_len];simpa using hlen)).mono fun e w' h=>?_
  obtain⟨v',rfl,hf,hb⟩:=h
  refine⟨hb,_,rfl,?_⟩
  simp only [List.flatMap_cons,List.flatMap_nil,List.append_nil]
  rw [← List.append_nil p.2]at hf ⊢
  simpa using fresh_ret (w:=w) hf
 | p::q::r,_,hr,hp,hn,hcell,hlen =>
  have hls:∀ ps:List Pb,Lib.lens (ps.map fun p=>u8L p.2)=(ps.map (·.2.length)).sum:=fun ps=>by
   unfold Lib.lens
   rw [List.map_map]
   congr 1
   exact List.map_congr_left fun p _=>u8L_len p.2
  have hj:Lib.join ((p::q::r).map fun p=>u8L p.2) []=u8L ((p::q::r).flatMap (·.2)):=by
   rw [List.map_cons,Lib.join_cons]
   unfold Lib.joinTail
   simp [u8L,List.flatMap_def,List.map_flatten,List.map_map,Function.comp_def]
  refine(Tryd.bytes_Join_many b o n c ((p::q::r).map (·.1)) ((p::q::r).map fun p=>u8L p.2) (.slice none 0 0) [] w (by rw [List.length_map];exact hn) (by rw [← hn];simp) ⟨by simp,hcell,fun i v l hv hl=>?_⟩ hc ⟨none,0,rfl,fun _=>rfl,nofun⟩ (by omega) (by rw [hls];simpa using hlen)).mono fun e w' h=>?_
  ·rw [List.getElem?_map,Option.map_eq_some_iff]at hv hl
   obtain⟨z,hz,rfl⟩:=hv
   obtain⟨z',hz',rfl⟩:=hl
   rw [hz]at hz';cases hz'
   exact holds_of (hp z (List.mem_of_getElem? hz))
  obtain⟨v',rfl,hf,hb⟩:=h
  rw [hj]at hf
  exact⟨hb,_,rfl,fresh_ret hf⟩
namespace SX
section
variable {C:Cx}{ρ:List Value}{α:Nat→AV}{sz:Nat}{y:V}
theorem src_row{xs:List Value}{cs:List V}(h:(denL ρ α cs).flatMap cellsV=xs):srcRel C ρ α sz (.row sz cs) y xs:=⟨⟨y.den ρ α,sz,xs⟩,⟨by rw [← h],trivial⟩,rfl,rfl⟩
theorem argNil(h:Value)(sz:Nat)(xs:List Value):(⟨h,sz,xs⟩:Arg)=⟨h,sz,xs++[]⟩:=by rw [List.append_nil]
theorem apo_rel{β:Type}{f:β→List Value}(hf:∀ a,(f a).length=sz)(h1:∀ a,∀ u∈f a,u.oneCell'=true)(h0:0<sz){l1 l2:List β}{cc:V}{by':Nat}{src:Rw}(hc:cellsV (cc.den ρ α)=l1.flatMap f)(hs:srcRel C ρ α sz src y (l2.flatMap f))(hne:l2≠[])(hb:(l1.length+l2.length)*by'≤140737488355328)(hl:l1.length+l2.length≤140737488355328):Opq.rel C ρ α (.apo sz by' src) [cc,y] (.agg ((l1++l2).flatMap f).toArray):=by
 obtain⟨x,ha,hz,hx⟩:=hs
 have e:((cellsV (cc.den ρ α)).length+x.cells.length) / sz=l1.length+l2.length:=by
  rw [hx,hc,flat_len hf,flat_len hf,← Nat.add_mul,Nat.mul_div_cancel _ h0]
 have one:∀ l:List β,∀ u∈l.flatMap f,u.oneCell'=true:=fun l u hu=>by
  obtain⟨a,_,h⟩:=List.mem_flatMap.1 hu
  exact h1 a u h
 refine⟨x,ha,hz,fun u hu=>one l2 u (by rw [← hx];exact hu),fun he=>?_,by rw [hc];exact one l1,by rw [e];exact hb,by rw [e];exact hl,by rw [hx,hc,List.flatMap_append]⟩
 rw [hx]at he
 have:=congrArg List.length he
 rw [flat_len hf,List.length_nil]at this
 rcases Nat.mul_eq_zero.1 this with h|h
 ·exact hne (List.eq_nil_of_length_eq_zero h)
 omega
end
end SX
def JoinR(K:Value→Nat→List Value→Prop)(f:FuncId)(xs:List SX.Arg)(v:Value):Prop:=f=90∧∃ (b o n c:Nat) (ps:List Pb),xs=[⟨.slice (some ⟨b,o,none⟩) n c,1,ps.map (·.1)⟩,⟨.slice none 0 0,1,[]⟩]∧(∀ p∈ps,K p.1 1 (p.2.flatMap c8))∧1≤ps.length∧ps.length≤1048576∧(ps.flatMap (·.2)).length≤140737488355328∧v=.agg ((ps.flatMap (·.2)).flatMap c8).toArray
def shpM0:FuncId→Option SX.Sh:=fun f=>if f=65 then some (.ag 32)else if f=90 then some (.sl 1)else none
noncomputable def cxM0(K A:Value→Nat→List Value→Prop):SX.Cx:={ P:=Tryd.prog,R:=fun K f xs v=>SumR K f xs v∨JoinR K f xs v,shp:=shpM0,K:=K,A:=A,trm:=true }
theorem okM0(K A:Value→Nat→List Value→Prop):(cxM0 K A).Ok:=by
 refine SX.Cx.ok_of (fun _=>rfl) ?_
 intro K f xs v W hR hrd hKf
 rcases hR with hR|⟨rfl,b,o,n,c,ps,rfl,hp,h1,h2,hl,rfl⟩
 ·have hf:=hR.1
  exact(sumR_calls hR hrd hKf).mono fun e w' h=>SX.plainOk (by subst hf;rfl) h
 refine Calls.mono ?_ fun e w' h=>SX.SlRet.ok1 rfl h
 have hr:=hrd ⟨.slice (some ⟨b,o,none⟩) n c,1,ps.map (·.1)⟩ (by simp)
 exact join_any ps b o n c W hr.1 hr.2 (fun p hpm=>hKf _ _ _ (hp p hpm)) h1 h2 (by rw [List.length_flatMap]at hl;exact hl)
def KT(b o n c:Nat)(ps:List Pb)(s:Value)(z:Nat)(xs:List Value):Prop:=(s=.slice (some ⟨b,o,none⟩) n c∧z=1∧xs=ps.map (·.1))∨(∃ p∈ps,s=p.1∧z=1∧xs=p.2.flatMap c8)∨(s=.slice (some ⟨0,0,none⟩) 1 1∧z=8∧xs=startS.cells)∨(s=.slice (some ⟨1,0,none⟩) 64 64∧z=1∧xs=numbersK.flatMap c32)
def tree_mtext:SX.Tree :=
(.df .s2b [(.q 0)] .any
(.df (.call 65 [(.row 1 [(.q 2)])]) [(.row 0)] (.ag 32)
(.df (.call 90 [(.ext 1),(.own 1 [])]) [(.q 1),(.k (.slice none 0 0))] (.sl 1)
(.df (.apo 1 1 (.row 1 [(.q 4)])) [(.a (SX.Y 3 0 32)),(.row 4)] .any
(.ret (.row 5) [none,none,none,none,none,(some ⟨[(.q 5)],5,(.row 1)⟩)] [])))))
def args_mtext:List SX.V:=[.x 0 [],.x 1 []]
set_option maxRecDepth 100000 in
theorem run_mtext(K A:Value→Nat→List Value→Prop):(SX.run (cxM0 K A) ⟨fun f=>true,[],2,100⟩ 100000 0 (SX.door 80 Tryd.f80 args_mtext [.one,.one]) [.code (Tryd.f80.body.getD .skip),.top Tryd.f80]).strip=tree_mtext:=by kernel_rfl
set_option maxRecDepth 100000 in
set_option maxHeartbeats 4000000 in
theorem text_any(tag:ByteArray)(ps:List Pb)(b o n c:Nat)(w:World)(htag:tag.size<1073741824)(hr:Rd w 1 (some ⟨b,o,none⟩) n (ps.map (·.1)))(hc:n≤c)(hp:∀ p∈ps,SX.Arg.rd w ⟨p.1,1,p.2.flatMap c8⟩)(h1:1≤ps.length)(h2:ps.length≤1048576)(hlen:(ps.flatMap (·.2)).length≤70368744177664)(hne:ps.flatMap (·.2)≠[])(hlaid:Laid w) :
 Calls Tryd.prog 80 #[.string tag,.slice (some ⟨b,o,none⟩) n c] w fun e w'=>Below w.heap.size w w'∧∃ hdr,e=.returned hdr∧SX.SlRet w w' [] hdr 1 ((sumE (sb tag)++ps.flatMap (·.2)).flatMap c8):=by
 refine SX.calls_of_run (C:=cxM0 (KT b o n c ps) (KT b o n c ps)) (G:=⟨fun f=>true,[],2,100⟩) (args:=args_mtext) (sh:=[.one,.one]) (ρ:=[.string tag,.slice (some ⟨b,o,none⟩) n c]) 100000 tree_mtext (okM0 _ _) Tryd.func80 rfl (run_mtext _ _) (by kernel_rfl) (by kernel_rfl) (by kernel_rfl) ?_ ?_
 ·rintro W hW s z xs (⟨rfl,rfl,rfl⟩|⟨p,hpm,rfl,rfl,rfl⟩|⟨rfl,rfl,rfl⟩|⟨rfl,rfl,rfl⟩)
  ·exact⟨hr.same0 hW,hc⟩
  ·have h:=hp p hpm
   unfold SX.Arg.rd at h ⊢
   split at h
   ·exact⟨h.1.same0 hW,h.2⟩
   cases h
  ·exact⟨hlaid.1.same0 hW,Nat.le_refl _⟩
  exact⟨hlaid.2.same0 hW,Nat.le_refl _⟩
 have hL:LaidK (KT b o n c ps):=⟨.inr (.inr (.inl ⟨rfl,rfl,rfl⟩)),.inr (.inr (.inr ⟨rfl,rfl,rfl⟩))⟩
 have hin:(KT b o n c ps) (.slice (some ⟨b,o,none⟩) n c) 1 (ps.map (·.1)):=.inl ⟨rfl,rfl,rfl⟩
 unfold tree_mtext
 refine SX.E (.agg ((sb tag).flatMap c8).toArray) (fun α=>s2b_rel (by kernel_rfl)) ?_
 refine SX.E (dgV (dgH (sb tag))) (fun α=>by rw [← dgH_val];exact⟨[⟨(α 0).h,1,(sb tag).flatMap c8⟩],⟨Eq.trans (SX.argNil (α 0).h 1 ((sb tag).flatMap c8)) (by kernel_rfl),trivial⟩,.inl ⟨rfl,hL,_,_,rfl,by rw [sb_len];omega,rfl⟩,SX.noAli rfl⟩) ?_
 have hD:=dgH_L (sb tag)
 have hXl:=sumE_len (sb tag)
 generalize dgH (sb tag)=D at *
 generalize sumE (sb tag)=X at *
 refine SX.VC_df (.agg ((ps.flatMap (·.2)).flatMap c8).toArray) (fun α=>⟨[⟨.slice (some ⟨b,o,none⟩) n c,1,ps.map (·.1)⟩,⟨.slice none 0 0,1,[]⟩],⟨by kernel_rfl,rfl,cast (by kernel_rfl) hin,by kernel_rfl,trivial⟩,.inr ⟨rfl,b,o,n,c,ps,rfl,fun p hpm=>.inr (.inl ⟨p,hpm,rfl,rfl,rfl⟩),h1,h2,by omega,rfl⟩,SX.noAli rfl⟩) (encs_fit _) ?_
 refine SX.VC_df (.agg ((X++ps.flatMap (·.2)).flatMap c8).toArray) (fun α=>SX.apo_rel (f:=c8) c8_len c8o (by decide) (l1:=X) (l2:=ps.flatMap (·.2)) (Eq.trans (b:=cellsDg D) (by kernel_rfl) (by rw [← dg_flat,hD])) (SX.src_row (Eq.trans (b:=(ps.flatMap (·.2)).flatMap c8++[]) (by kernel_rfl) (List.append_nil _))) hne (by rw [hXl];omega) (by rw [hXl];omega)) rfl ?_
 exact SX.VC_ret fun α W _ hrow hS=>⟨hS.below,_,by kernel_rfl,SX.SlRet.row hS (n:=5) (b:=(⟨[(.x 5 [])],5,(.row 1)⟩:SX.Blk)) (by kernel_rfl) rfl (hrow 5 _ (by kernel_rfl)) (Eq.trans (b:=(X++ps.flatMap (·.2)).flatMap c8++[]) (by kernel_rfl) (List.append_nil _))⟩
theorem lfX_len(l:List W8):(lfX l).length=32+l.length:=by unfold lfX;rw [List.length_append,sumE_len]
theorem ndX_len(x y:Dg):(ndX x y).length=96:=by unfold ndX;rw [List.length_append,sumE_len,List.length_append,dgL_len,dgL_len]
theorem sumR_mk{K:Value→Nat→List Value→Prop}(hL:LaidK K){u:Value}{l:List W8}(h:l.length<1152921504606846976):SumR K 65 [⟨u,1,l.flatMap c8⟩] (dgV (dgH l)):=⟨rfl,hL,u,l,rfl,h,(dgH_val l).symm⟩
def TextR(K:Value→Nat→List Value→Prop)(f:FuncId)(xs:List SX.Arg)(v:Value):Prop:=f=80∧LaidK K∧∃ (tag:ByteArray) (b o n c:Nat) (ps:List Pb),xs=[⟨.string tag,0,[]⟩,⟨.slice (some ⟨b,o,none⟩) n c,1,ps.map (·.1)⟩]∧(∀ p∈ps,K p.1 1 (p.2.flatMap c8))∧tag.size<1073741824∧1≤ps.length∧ps.length≤1048576∧(ps.flatMap (·.2)).length≤70368744177664∧ps.flatMap (·.2)≠[]∧v=.agg ((sumE (sb tag)++ps.flatMap (·.2)).flatMap c8).toArray
theorem text_calls{K:Value→Nat→List Value→Prop}{f:FuncId}{xs:List SX.Arg}{v:Value}{W:World}{C:SX.Cx}(h:TextR K f xs v)(hs:C.sh 80=.sl 1)(hrd:∀ x∈xs,x.rd W)(hK:∀ s sz cells,K s sz cells→SX.Arg.rd W ⟨s,sz,cells⟩) :
 Calls Tryd.prog f (xs.map SX.Arg.v).toArray W fun e w'=>Below W.heap.size W w'∧∃ hdr,e=.returned ((C.sh f).fill hdr v)∧∀ p z,(p,z)∈(C.sh f).sls []→SX.HdrOk C f xs W w' hdr z (SX.cellsV (p.foldl SX.comp v)):=by
 obtain⟨rfl,hL,tag,b,o,n,c,ps,rfl,hp,ht,h1,h2,hl,hne,rfl⟩:=h
 refine Calls.mono ?_ fun e w' h=>SX.SlRet.ok1 hs h
 have hr:=hrd ⟨.slice (some ⟨b,o,none⟩) n c,1,ps.map (·.1)⟩ (by simp)
 exact text_any tag ps b o n c W ht hr.1 hr.2 (fun p hpm=>hK _ _ _ (hp p hpm)) h1 h2 hl hne (laid_of hL hK)
def shpM1:FuncId→Option SX.Sh:=fun f=>if f=65 then some (.ag 32)else if f=80 then some (.sl 1)else none
noncomputable def cxM1(K A:Value→Nat→List Value→Prop):SX.Cx:={ P:=Tryd.prog,R:=fun K f xs v=>SumR K f xs v∨TextR K f xs v,shp:=shpM1,K:=K,A:=A,trm:=true }
theorem okM1(K A:Value→Nat→List Value→Prop):(cxM1 K A).Ok:=by
 refine SX.Cx.ok_of (fun _=>rfl) ?_
 intro K f xs v W hR hrd hKf
 rcases hR with hR|hR
 ·have hf:=hR.1
  exact(sumR_calls hR hrd hKf).mono fun e w' h=>SX.plainOk (by subst hf;rfl) h
 exact text_calls hR rfl hrd hKf
def tree_mleaf:SX.Tree :=
(.df (.call 80 [.no,(.own 1 [(.q 0)])]) [(.k (.string ⟨#[108,101,97,102]⟩)),(.sl 1 0 1 1)] (.sl 1)
(.df (.call 65 [(.row 1 [(.q 1)])]) [(.row 2)] (.ag 32)
(.ret (.a (SX.Y 2 0 32)) [] [])))
def args_mleaf:List SX.V:=[.x 0 []]
set_option maxRecDepth 100000 in
theorem run_mleaf(K A:Value→Nat→List Value→Prop):(SX.run (cxM1 K A) ⟨fun f=>true,[],0,100⟩ 100000 0 (SX.door 68 Tryd.f68 args_mleaf [.one]) [.code (Tryd.f68.body.getD .skip),.top Tryd.f68]).strip=tree_mleaf:=by kernel_rfl
set_option maxRecDepth 100000 in
set_option maxHeartbeats 4000000 in
theorem leafHash_any(l:List W8)(A:Option Addr)(n c:Nat)(w:World)(hr:Rd w 1 A n (l.flatMap c8))(hc:n≤c)(hne:l≠[])(hl:l.length≤17592186044416)(hlaid:Laid w):Calls Tryd.prog 68 #[.slice A n c] w fun e w'=>e=.returned (dgV (dgH (lfX l)))∧Below w.heap.size w w':=by
 refine SX.calls_of_run (C:=cxM1 (KS A n c l) (KS A n c l)) (G:=⟨fun f=>true,[],0,100⟩) (args:=args_mleaf) (sh:=[.one]) (ρ:=[.slice A n c]) 100000 tree_mleaf (okM1 _ _) Tryd.func68 rfl (run_mleaf _ _) (by kernel_rfl) (by kernel_rfl) (by kernel_rfl) ?_ ?_
 ·rintro W hW v z xs (⟨rfl,rfl,rfl⟩|⟨rfl,rfl,rfl⟩|⟨rfl,rfl,rfl⟩)
  ·exact⟨hr.same0 hW,hc⟩
  ·exact⟨hlaid.1.same0 hW,Nat.le_refl _⟩
  exact⟨hlaid.2.same0 hW,Nat.le_refl _⟩
 have hL:LaidK (KS A n c l):=⟨.inr (.inl ⟨rfl,rfl,rfl⟩),.inr (.inr ⟨rfl,rfl,rfl⟩)⟩
 have hX:=lfX_len l
 have hXe:lfX l=sumE (sb leafT)++[((.slice A n c:Value),l)].flatMap (·.2):=by simp only [lfX,List.flatMap_cons,List.flatMap_nil,List.append_nil]
 generalize lfX l=X at *
 unfold tree_mleaf
 refine SX.VC_df (.agg (X.flatMap c8).toArray) (fun α=>⟨[⟨.string leafT,0,[]⟩,⟨.slice (some ⟨(α 1).b,0,none⟩) 1 1,1,[.slice A n c]⟩],⟨by kernel_rfl,by kernel_rfl,by kernel_rfl,trivial⟩,.inr ⟨rfl,hL,leafT,(α 1).b,0,1,1,[(.slice A n c,l)],rfl,(fun p hp=>by rw [List.mem_singleton.1 hp];exact .inl ⟨rfl,rfl,rfl⟩),by decide,by simp,by simp,by simp only [List.flatMap_cons,List.flatMap_nil,List.append_nil];omega,by simpa using hne,by rw [hXe]⟩,SX.noAli rfl⟩) (encs_fit _) ?_
 refine SX.E (dgV (dgH X)) (fun α=>⟨[⟨(α 2).h,1,X.flatMap c8⟩],⟨Eq.trans (SX.argNil (α 2).h 1 (X.flatMap c8)) (by kernel_rfl),trivial⟩,.inl (sumR_mk hL (by omega)),SX.noAli rfl⟩) ?_
 exact SX.F (dgV (dgH X)) rfl
def tree_mnode:SX.Tree :=
(.df (.callg 80 [.no,(.own 1 [(.sl 0 0 32 32),(.sl 1 0 32 32)])] [(.own 1 (SX.Y 0 0 32)),(.own 1 (SX.Y 1 0 32))]) [(.k (.string ⟨#[110,111,100,101]⟩)),(.sl 4 0 2 2),(.sl 0 0 32 32),(.sl 1 0 32 32)] (.sl 1)
(.ret (.row 5) [none,none,none,none,none,(some ⟨[(.q 2)],0,(.ext 1)⟩)] []))
def args_mnode:List SX.V:=[.a ((List.range 32).map fun j=>.x 0 [j]),.a ((List.range 32).map fun j=>.x 1 [j])]
set_option maxRecDepth 100000 in
theorem run_mnode(K A:Value→Nat→List Value→Prop):(SX.run (cxM1 K A) ⟨fun f=>true,[],2,100⟩ 100000 0 (SX.door 82 Tryd.f82 args_mnode [.ag 32,.ag 32]) [.code (Tryd.f82.body.getD .skip),.top Tryd.f82]).strip=tree_mnode:=by kernel_rfl
def KLa(s:Value)(z:Nat)(xs:List Value):Prop:=(s=.slice (some ⟨0,0,none⟩) 1 1∧z=8∧xs=startS.cells)∨(s=.slice (some ⟨1,0,none⟩) 64 64∧z=1∧xs=numbersK.flatMap c32)
theorem KLa_laid:LaidK KLa:=⟨.inl ⟨rfl,rfl,rfl⟩,.inr ⟨rfl,rfl,rfl⟩⟩
theorem KLa_f{w W:World}(hlaid:Laid w)(hW:Same [] w W):∀ s z xs,KLa s z xs→SX.Arg.rd W ⟨s,z,xs⟩:=by
 rintro v z xs (⟨rfl,rfl,rfl⟩|⟨rfl,rfl,rfl⟩)
 ·exact⟨hlaid.1.same0 hW,Nat.le_refl _⟩
 exact⟨hlaid.2.same0 hW,Nat.le_refl _⟩
set_option maxRecDepth 100000 in
set_option maxHeartbeats 4000000 in
theorem node_any(x y:Dg)(w:World)(hlaid:Laid w):Calls Tryd.prog 82 #[dgV x,dgV y] w fun e w'=>Below w.heap.size w w'∧∃ hdr,e=.returned hdr∧SX.SlRet w w' [] hdr 1 ((ndX x y).flatMap c8):=by
 refine SX.calls_of_run (C:=cxM1 KLa (fun _ _ _=>False)) (G:=⟨fun f=>true,[],2,100⟩) (args:=args_mnode) (sh:=[.ag 32,.ag 32]) (ρ:=[dgV x,dgV y]) 100000 tree_mnode (okM1 _ _) Tryd.func82 rfl (run_mnode _ _) (by kernel_rfl) (by kernel_rfl) (by kernel_rfl) ?_ ?_
 ·exact fun W hW=>KLa_f hlaid hW
 have hXe:∀ u v:Value,ndX x y=sumE (sb nodeT)++[((u:Value),dgL x),(v,dgL y)].flatMap (·.2):=fun u v=>by simp only [ndX,List.flatMap_cons,List.flatMap_nil,List.append_nil]
 generalize ndX x y=X at *
 unfold tree_mnode
 refine SX.VC_df (.agg (X.flatMap c8).toArray) (fun α=>⟨[⟨.string nodeT,0,[]⟩,⟨.slice (some ⟨(α 4).b,0,none⟩) 2 2,1,[.slice (some ⟨(α 0).b,0,none⟩) 32 32,.slice (some ⟨(α 1).b,0,none⟩) 32 32]⟩],[⟨.slice (some ⟨(α 0).b,0,none⟩) 32 32,1,cellsDg x⟩,⟨.slice (some ⟨(α 1).b,0,none⟩) 32 32,1,cellsDg y⟩],⟨by kernel_rfl,by kernel_rfl,by kernel_rfl,trivial⟩,⟨by kernel_rfl,by kernel_rfl,trivial⟩,.inr ⟨rfl,⟨.inl KLa_laid.1,.inl KLa_laid.2⟩,nodeT,(α 4).b,0,2,2,[(.slice (some ⟨(α 0).b,0,none⟩) 32 32,dgL x),(.slice (some ⟨(α 1).b,0,none⟩) 32 32,dgL y)],rfl,(fun p hp=>by
  rcases List.mem_cons.1 hp with rfl|hp
  ·exact .inr (List.mem_cons_self ..)
  rw [List.mem_singleton.1 hp];exact .inr (List.mem_cons_of_mem _ (List.mem_singleton.2 rfl))),by decide,by simp,by simp,by simp [dgL_len],by simp [dgL],by rw [hXe]⟩,SX.noAli rfl⟩) (encs_fit _) ?_
 exact SX.VC_ret fun α W _ hrow hS=>⟨hS.below,_,by kernel_rfl,SX.SlRet.ext0 hS (n:=5) (b:=(⟨[(.x 2 [])],0,(.ext 1)⟩:SX.Blk)) (by kernel_rfl) rfl (hrow 5 _ (by kernel_rfl)) (Eq.trans (b:=X.flatMap c8++[]) (by kernel_rfl) (List.append_nil _)) (fun W2 s sz cells h=>h.elim) (fun B s sz cells h=>h.elim)⟩
def upE:List Dg→List Dg
 | x::y::r=>dgH (ndX x y)::upE r
 | l=>l
theorem upE_len:∀ l:List Dg,(upE l).length=(l.length+1) / 2
 | x::y::r=>by unfold upE;rw [List.length_cons,upE_len r,List.length_cons,List.length_cons];omega
 | [x]=>by simp [upE]
 | []=>by simp [upE]
theorem upE_cons(x y:Dg)(r:List Dg):upE (x::y::r)=dgH (ndX x y)::upE r:=by conv=>lhs;unfold upE
def NodeR(K:Value→Nat→List Value→Prop)(f:FuncId)(xs:List SX.Arg)(v:Value):Prop:=f=82∧LaidK K∧∃ x y:Dg,xs=[⟨dgV x,0,[]⟩,⟨dgV y,0,[]⟩]∧v=.agg ((ndX x y).flatMap c8).toArray
theorem node_calls{K:Value→Nat→List Value→Prop}{f:FuncId}{xs:List SX.Arg}{v:Value}{W:World}{C:SX.Cx}(h:NodeR K f xs v)(hs:C.sh 82=.sl 1)(hK:∀ s sz cells,K s sz cells→SX.Arg.rd W ⟨s,sz,cells⟩) :
 Calls Tryd.prog f (xs.map SX.Arg.v).toArray W fun e w'=>Below W.heap.size W w'∧∃ hdr,e=.returned ((C.sh f).fill hdr v)∧∀ p z,(p,z)∈(C.sh f).sls []→SX.HdrOk C f xs W w' hdr z (SX.cellsV (p.foldl SX.comp v)):=by
 obtain⟨rfl,hL,x,y,rfl,rfl⟩:=h
 exact Calls.mono (node_any x y W (laid_of hL hK)) fun e w' h=>SX.SlRet.ok1 hs h
def shpM2:FuncId→Option SX.Sh:=fun f=>if f=65 then some (.ag 32)else if f=82 then some (.sl 1)else none
noncomputable def cxM2(K A:Value→Nat→List Value→Prop):SX.Cx:={ P:=Tryd.prog,R:=fun K f xs v=>SumR K f xs v∨NodeR K f xs v,shp:=shpM2,K:=K,A:=A,trm:=true }
theorem okM2(K A:Value→Nat→List Value→Prop):(cxM2 K A).Ok:=by
 refine SX.Cx.ok_of (fun _=>rfl) ?_
 intro K f xs v W hR hrd hKf
 rcases hR with hR|hR
 ·have hf:=hR.1
  exact(sumR_calls hR hrd hKf).mono fun e w' h=>SX.plainOk (by subst hf;rfl) h
 exact node_calls hR rfl hKf
def tree_mup:SX.Tree :=
(.loop [(.q 0),(.cat [])] [.one,.any]
(.df (.len false) [(.q 1)] .one
(.df (.bin .gtr 3) [(.q 3),(.i 1)] .one
(.br 4 []
(.df .bnd [(.q 1),(.i 0)] .one
(.df (.elems 32 0 32) [(.q 1),(.i 0)] (.ag 32)
(.df .bnd [(.q 1),(.i 1)] .one
(.df (.elems 32 0 32) [(.q 1),(.i 1)] (.ag 32)
(.df (.call 82 [.no,.no]) [(.a (SX.Y 6 0 32)),(.a (SX.Y 8 0 32))] (.sl 1)
(.df (.call 65 [(.row 1 [(.q 9)])]) [(.row 10)] (.ag 32)
(.df (.app 32 32 (.own 32 (SX.Y 10 0 32))) [(.cat [(.q 2)]),(.sl 12 0 1 1)] .any
(.df (.slc false 32 true false false) [(.q 1),(.i 2)] .one
(.again 0 [(.q 12),(.cat [(.q 2),(.q 11)])])))))))))
(.df (.app 32 32 (.ext 32)) [(.cat [(.q 2)]),(.q 1)] .any
(.ret (.row 3) [none,none,none,(some ⟨[(.q 2),(.q 5)],23,(.row 32)⟩)] []))))))
def args_mup:List SX.V:=[.x 0 []]
set_option maxRecDepth 100000 in
theorem run_mup(K A:Value→Nat→List Value→Prop):(SX.run (cxM2 K A) ⟨fun f=>f != 69,[⟨69,1,[(.s 0,.one),(.s 2,.row 32 23)]⟩],2,100⟩ 100000 0 (SX.door 69 Tryd.f69 args_mup [.one]) [.code (Tryd.f69.body.getD .skip),.top Tryd.f69]).strip=tree_mup:=by kernel_rfl
def KW(w:World)(v:Value)(z:Nat)(xs:List Value):Prop:=∀ W,Same [] w W→SX.Arg.rd W ⟨v,z,xs⟩
theorem KW_laid{w:World}(h:Laid w):LaidK (KW w):=⟨fun W hW=>⟨h.1.same0 hW,Nat.le_refl _⟩,fun W hW=>⟨h.2.same0 hW,Nat.le_refl _⟩⟩
set_option maxRecDepth 100000 in
set_option maxHeartbeats 4000000 in
theorem up_any(ds:List Dg)(A:Option Addr)(n c:Nat)(w:World)(hr:Rd w 32 A n (dgs ds))(hc:n≤c)(hl:ds.length≤1000000)(hlaid:Laid w):Calls Tryd.prog 69 #[.slice A n c] w fun e w'=>∃ h' b' tl',e=.returned h'∧Below w.heap.size w w'∧RowAt 32 h' b' 23 (dgs (upE ds)) tl' w'∧w.heap.size≤b':=by
 refine SX.calls_of_run (C:=cxM2 (KW w) (fun _ _ _=>False)) (G:=⟨fun f=>f != 69,[⟨69,1,[(.s 0,.one),(.s 2,.row 32 23)]⟩],2,100⟩) (args:=args_mup) (sh:=[.one]) (ρ:=[.slice A n c]) 100000 tree_mup (okM2 _ _) Tryd.func69 rfl (run_mup _ _) (by kernel_rfl) (by kernel_rfl) (by kernel_rfl) ?_ ?_
 ·exact fun W hW v z xs h=>h W hW
 have hL:LaidK (KW w):=KW_laid hlaid
 unfold tree_mup
 refine SX.VC_loop (fun xs=>∃ (A:Option Addr) (n c:Nat) (l acc:List Dg),xs=[.slice A n c,.agg (dgs acc).toArray]∧Rd w 32 A n (dgs l)∧n≤c∧l.length=n∧acc++upE l=upE ds∧acc.length+l.length≤ds.length) (fun xs=>match xs with|.slice _ n _::_=>n|_=>0) (fun α=>⟨A,n,c,ds,[],by kernel_rfl,hr,hc,by have:=hr.1;rw [dgs_len]at this;omega,rfl,by simp⟩) ?_
 rintro xs-⟨A1,n1,c1,l,acc,rfl,hr1,hc1,hn1,hI,hsz⟩
 have hK1:KW w (.slice A1 n1 c1) 32 (dgs l):=fun W hW=>⟨hr1.same0 hW,hc1⟩
 have hA1:=SX.rd_some hr1
 refine SX.D (.int .i64 (n1:Int)) ?_
 refine SX.E (.bool (decide (1<n1))) (fun α=>cast (by kernel_rfl) (gtr_nat n1 1)) ?_
 refine SX.B (decide (1<n1)) (fun h1=>?_) (fun h1=>?_)
 ·have h1:1<n1:=by simpa using h1
  rcases l with _|⟨x,_|⟨y,r⟩⟩
  ·simp at hn1;omega
  ·simp at hn1;omega
  refine SX.E (.bool true) (fun α=>SX.extBnd (A:=A1) (n:=n1) (c:=c1) (j:=0) hA1 (by kernel_rfl) (by kernel_rfl) (by omega)) ?_
  refine SX.E (dgV x) (fun α=>SX.extElems (f:=cellsDg) (l:=x::y::r) (A:=A1) (n:=n1) (c:=c1) (j:=0) (z:=x) (fun _=>rfl) hA1 (by kernel_rfl) (by kernel_rfl) (by omega) (cast (by kernel_rfl) hK1) rfl) ?_
  refine SX.E (.bool true) (fun α=>SX.extBnd (A:=A1) (n:=n1) (c:=c1) (j:=1) hA1 (by kernel_rfl) (by kernel_rfl) (by omega)) ?_
  refine SX.E (dgV y) (fun α=>SX.extElems (f:=cellsDg) (l:=x::y::r) (A:=A1) (n:=n1) (c:=c1) (j:=1) (z:=y) (fun _=>rfl) hA1 (by kernel_rfl) (by kernel_rfl) (by omega) (cast (by kernel_rfl) hK1) rfl) ?_
  have hX:=ndX_len x y
  have hI2:(acc++[dgH (ndX x y)])++upE r=upE ds:=by rw [← hI,upE_cons];simp
  refine SX.VC_df (.agg ((ndX x y).flatMap c8).toArray) (fun α=>⟨[⟨dgV x,0,[]⟩,⟨dgV y,0,[]⟩],⟨by kernel_rfl,by kernel_rfl,by kernel_rfl,by kernel_rfl,trivial⟩,.inr ⟨rfl,hL,x,y,rfl,rfl⟩,SX.noAli rfl⟩) (encs_fit _) ?_
  generalize ndX x y=X at *
  refine SX.E (dgV (dgH X)) (fun α=>⟨[⟨(α 10).h,1,X.flatMap c8⟩],⟨Eq.trans (SX.argNil (α 10).h 1 (X.flatMap c8)) (by kernel_rfl),trivial⟩,.inl (sumR_mk hL (by omega)),SX.noAli rfl⟩) ?_
  generalize dgH X=D at *
  simp only [List.length_cons]at hn1 hsz
  refine SX.E (.agg ([D].flatMap cellsDg).toArray) (fun α=>SX.app_rel (f:=cellsDg) (l1:=acc) (l2:=[D]) (fun _=>rfl) cellsDg_one (by decide) (SX.cat1 (j:=2) (by kernel_rfl)) ⟨⟨.slice (some ⟨(α 12).b,0,none⟩) 1 1,32,[D].flatMap cellsDg⟩,⟨by kernel_rfl,trivial⟩,rfl,rfl⟩ (by simp;omega) (by simp;omega)) ?_
  refine SX.E (SX.subS A1 32 2 n1 c1) (fun α=>SX.slc_lo (A:=A1) (n:=n1) (c:=c1) (k:=2) (by kernel_rfl) (by kernel_rfl) (by omega)) ?_
  exact VC_again2 rfl (fun α=>⟨_,n1-2,c1-2,r,acc++[D],Eq.trans (b:=[SX.subS A1 32 2 n1 c1,.agg ([Value.agg (dgs acc).toArray,.agg ([D].flatMap cellsDg).toArray].flatMap SX.cellsV).toArray]) (by kernel_rfl) (by simp [SX.subS,SX.cellsV,dgs]),hr1.cut (by omega) hc1,by omega,by omega,hI2,by simp;omega⟩) (fun α=>cast (by kernel_rfl) (show n1-2<n1 by omega))
 have h1:¬ 1<n1:=by simpa using h1
 have hup:upE l=l:=by
  rcases l with _|⟨x,_|⟨y,r⟩⟩
  ·simp [upE]
  ·simp [upE]
  simp at hn1;omega
 rw [hup]at hI
 refine SX.E (.agg (l.flatMap cellsDg).toArray) (fun α=>SX.app_rel (f:=cellsDg) (l1:=acc) (l2:=l) (fun _=>rfl) cellsDg_one (by decide) (SX.cat1 (j:=2) (by kernel_rfl)) (SX.src_ext (cast (by kernel_rfl) hK1)) (by omega) (by omega)) ?_
 exact SX.VC_ret fun α W _ hR hS=>by
  obtain⟨b',tl',h1,h2⟩:=SX.SlRet.nrow hS (cells:=dgs (upE ds)) (n:=3) (b:=(⟨[(.x 2 []),(.x 5 [])],23,(.row 32)⟩:SX.Blk)) (by kernel_rfl) rfl (hR 3 _ (by kernel_rfl)) (Eq.trans (b:=[Value.agg (dgs acc).toArray,.agg (l.flatMap cellsDg).toArray].flatMap SX.cellsV) (by kernel_rfl) (by rw [← hI];simp [SX.cellsV,dgs]))
  exact⟨_,b',tl',rfl,hS.below,h1,h2⟩
namespace SX
section
variable {C:Cx}{ρ:List Value}{α:Nat→AV}{sz k:Nat}{i:V}
theorem rlenD{β:Type}{f:β→List Value}(hf:∀ a,(f a).length=sz)(h0:0<sz){l:List β}{cc:V}(hc:cellsV (cc.den ρ α)=l.flatMap f):Opq.rel C ρ α (.rlen sz) [cc] (.int .i64 ((l.length:Nat):Int)):=by
 show Value.int .i64 ((l.length:Nat):Int)=.int .i64 (((cellsV (cc.den ρ α)).length / sz:Nat):Int)
 rw [hc,flat_len hf,Nat.mul_div_cancel _ h0]
theorem relemsD{β:Type}{f:β→List Value}(hf:∀ a,(f a).length=sz)(h0:0<sz){l:List β}{cc:V}{z:β}(hc:cellsV (cc.den ρ α)=l.flatMap f)(hi:i.den ρ α=.int .i64 (k:Int))(hz:l[k]?=some z):Opq.rel C ρ α (.relems sz 0 sz) [cc,i] (.agg (f z).toArray):=by
 have hk:=(List.getElem?_eq_some_iff.1 hz).1
 refine⟨(row_bnd (C:=C) hf h0 hc hi hk).1,?_,?_⟩
 ·rw [hc,hi,flat_len hf]
  show(k:Int).toNat*sz+0+sz≤_
  rw [Int.toNat_natCast,Nat.add_zero,← Nat.succ_mul]
  exact Nat.mul_le_mul_right _ hk
 rw [hc,hi]
 show _=Value.agg ((((l.flatMap f).drop ((k:Int).toNat*sz+0)).take sz).toArray)
 rw [Int.toNat_natCast,Nat.add_zero,flat_elem hf hz,List.take_append_of_le_length (by rw [hf];exact Nat.le_refl _),List.take_of_length_le (by rw [hf];exact Nat.le_refl _)]
end
end SX
def lfD(p:Pb):Dg:=dgH (lfX p.2)
def topE(l:List Dg):Dg :=
 if h:l.length≤1 then l.headD (fun _=>0)else topE (upE l)
termination_by l.length
decreasing_by rw [upE_len];omega
theorem topE_one{l:List Dg}(h:l.length≤1):topE l=l.headD (fun _=>0):=by rw [topE,dif_pos h]
theorem topE_up{l:List Dg}(h:¬ l.length≤1):topE (upE l)=topE l:=by conv=>rhs;rw [topE,dif_neg h]
theorem hds_eq(ps:List Pb):ps.flatMap (fun p=>[p.1])=ps.map (·.1):=by induction ps with
 | nil=>rfl
 | cons p r ih=>rw [List.flatMap_cons,ih];rfl
def LeafR(K:Value→Nat→List Value→Prop)(f:FuncId)(xs:List SX.Arg)(v:Value):Prop:=f=68∧LaidK K∧∃ (u:Value) (l:List W8),xs=[⟨u,1,l.flatMap c8⟩]∧l≠[]∧l.length≤17592186044416∧v=dgV (dgH (lfX l))
theorem arg_sl{W:World}{u:Value}{z:Nat}{xs:List Value}(h:SX.Arg.rd W ⟨u,z,xs⟩)(hz:z≠0:=by decide):∃ A n c,u=.slice A n c∧Rd W z A n xs∧n≤c:=by
 unfold SX.Arg.rd at h
 split at h
 ·rename_i A n c hv
  exact⟨A,n,c,hv,h.1,h.2⟩
 exact absurd h (by simp [hz])
theorem leaf_calls{K:Value→Nat→List Value→Prop}{f:FuncId}{xs:List SX.Arg}{v:Value}{W:World}(h:LeafR K f xs v)(hrd:∀ x∈xs,x.rd W)(hK:∀ s sz cells,K s sz cells→SX.Arg.rd W ⟨s,sz,cells⟩) :
 Calls Tryd.prog f (xs.map SX.Arg.v).toArray W fun e w'=>e=.returned v∧Below W.heap.size W w':=by
 obtain⟨rfl,hL,u,l,rfl,hne,hl,rfl⟩:=h
 obtain⟨A,n,c,rfl,hr,hc⟩:=arg_sl (hrd _ (List.mem_singleton.2 rfl))
 exact leafHash_any l A n c W hr hc hne hl (laid_of hL hK)
def shpM3:FuncId→Option SX.Sh:=fun f=>if f=65 then some (.ag 32)else if f=49 then some (.ag 32)else if f=68 then some (.ag 32)else if f=80 then some (.sl 1)else if f=82 then some (.sl 1)else none
noncomputable def cxM3(K A:Value→Nat→List Value→Prop):SX.Cx:={ P:=Tryd.prog,R:=LeafR,shp:=shpM3,K:=K,A:=A,trm:=true,rc:=fun f=>if f=69 then some false else none }
theorem okM3(K A:Value→Nat→List Value→Prop):(cxM3 K A).Ok:=by
 refine SX.Cx.ok_of (fun _=>rfl) ?_
 intro K f xs v W hR hrd hKf
 have hf:=hR.1
 exact(leaf_calls hR hrd hKf).mono fun e w' h=>SX.plainOk (by subst hf;rfl) h
theorem up_nc(K A:Value→Nat→List Value→Prop)(hL:LaidK K){rw':List SX.Rw}{u:Value}{ds:List Dg}(hl:ds.length≤1000000):SX.NCall (cxM3 K A) 69 rw' [⟨u,32,dgs ds⟩] 32 23 (.agg (dgs (upE ds)).toArray):=fun W hrd hK _=>by
 obtain⟨A,n,c,rfl,h2,h3⟩:=arg_sl (hrd ⟨u,32,dgs ds⟩ (by simp) W (.refl _ _))
 exact up_any ds A n c W h2 h3 hl (laid_of hL fun s sz cells h=>hK s sz cells h W (.refl _ _))
def tree_mroot:SX.Tree :=
(.df (.len false) [(.q 0)] .one
(.df (.bin .eql 3) [(.q 1),(.i 0)] .one
(.br 2 []
(.df (.call 49 [.no,(.own 1 [])]) [(.k (.string ⟨#[110,111,110,101]⟩)),(.k (.slice none 0 0))] (.ag 32)
(.ret (.a (SX.Y 3 0 32)) [] []))
(.df (.len false) [(.q 0)] .one
(.loop [(.i 0),(.cat [])] [.one,.any]
(.df (.bin .lss 3) [(.q 4),(.q 3)] .one
(.br 6 []
(.df .bnd [(.q 0),(.q 4)] .one
(.df (.elem 1 0) [(.q 0),(.q 4)] .one
(.df (.call 68 [(.ext 1)]) [(.q 8)] (.ag 32)
(.df (.app 32 32 (.own 32 (SX.Y 9 0 32))) [(.cat [(.q 5)]),(.sl 6 0 1 1)] .any
(.df (.bin .add 3) [(.q 4),(.i 1)] .one
(.again 0 [(.q 11),(.cat [(.q 5),(.q 10)])]))))))
(.loop [(.cat [(.q 5)]),(.k (.int .u8 0)),(.k (.int .u8 0)),(.k (.int .u8 0)),(.k (.int .u8 0)),(.k (.int .u8 0)),(.k (.int .u8 0)),(.k (.int .u8 0)),(.k (.int .u8 0)),(.k (.int .u8 0)),(.k (.int .u8 0)),(.k (.int .u8 0)),(.k (.int .u8 0)),(.k (.int .u8 0)),(.k (.int .u8 0)),(.k (.int .u8 0)),(.k (.int .u8 0)),(.k (.int .u8 0)),(.k (.int .u8 0)),(.k (.int .u8 0)),(.k (.int .u8 0)),(.k (.int .u8 0)),(.k (.int .u8 0)),(.k (.int .u8 0)),(.k (.int .u8 0)),(.k (.int .u8 0)),(.k (.int .u8 0)),(.k (.int .u8 0)),(.k (.int .u8 0)),(.k (.int .u8 0)),(.k (.int .u8 0)),(.k (.int .u8 0)),(.k (.int .u8 0))] [.any,.one,.one,.one,.one,.one,.one,.one,.one,.one,.one,.one,.one,.one,.one,.one,.one,.one,.one,.one,.one,.one,.one,.one,.one,.one,.one,.one,.one,.one,.one,.one,.one]
(.df (.rbnd 32) [(.cat [(.q 7)]),(.i 0)] .one
(.df (.relems 32 0 32) [(.cat [(.q 7)]),(.i 0)] (.ag 32)
(.df (.rlen 32) [(.cat [(.q 7)])] .one
(.df (.bin .gtr 3) [(.q 42),(.i 1)] .one
(.br 43 []
(.df (.calln 69 [(.row 32 [(.q 7)])] 32 23) [(.row 6)] .any
(.again 1 [(.cat [(.q 44)]),(.x 41 [0]),(.x 41 [1]),(.x 41 [2]),(.x 41 [3]),(.x 41 [4]),(.x 41 [5]),(.x 41 [6]),(.x 41 [7]),(.x 41 [8]),(.x 41 [9]),(.x 41 [10]),(.x 41 [11]),(.x 41 [12]),(.x 41 [13]),(.x 41 [14]),(.x 41 [15]),(.x 41 [16]),(.x 41 [17]),(.x 41 [18]),(.x 41 [19]),(.x 41 [20]),(.x 41 [21]),(.x 41 [22]),(.x 41 [23]),(.x 41 [24]),(.x 41 [25]),(.x 41 [26]),(.x 41 [27]),(.x 41 [28]),(.x 41 [29]),(.x 41 [30]),(.x 41 [31])]))
(.ret (.a (SX.Y 41 0 32)) [] []))))))))))))))
def args_mroot:List SX.V:=[.x 0 []]
def cfgRoot:SX.Cfg:=⟨fun f=>f != 69,[⟨67,2,[(.s 8,.one),(.s 3,.row 32 23)]⟩,⟨67,6,(.s 3,.row 32 23)::(List.range 32).map fun j=>(.c 0 j,.one)⟩],0,100⟩
set_option maxRecDepth 100000 in
theorem run_mroot(K A:Value→Nat→List Value→Prop):(SX.run (cxM3 K A) cfgRoot 100000 0 (SX.door 19 Tryd.f19 args_mroot [.one]) [.code (Tryd.f19.body.getD .skip),.top Tryd.f19]).strip=tree_mroot:=by kernel_rfl
set_option maxRecDepth 100000 in
set_option maxHeartbeats 4000000 in
theorem root_any(ps:List Pb)(A:Option Addr)(n c:Nat)(w:World)(hr:Rd w 1 A n (ps.map (·.1)))(hc:n≤c)(h0:ps≠[])(hl:ps.length≤1000000)(hp:∀ p∈ps,SX.Arg.rd w ⟨p.1,1,p.2.flatMap c8⟩)(hpl:∀ p∈ps,p.2≠[]∧p.2.length≤17592186044416)(hlaid:Laid w):Calls Tryd.prog 19 #[.slice A n c] w fun e w'=>e=.returned (dgV (topE (ps.map lfD)))∧Below w.heap.size w w':=by
 refine SX.calls_of_run (C:=cxM3 (KW w) (fun _ _ _=>False)) (G:=cfgRoot) (args:=args_mroot) (sh:=[.one]) (ρ:=[.slice A n c]) 100000 tree_mroot (okM3 _ _) Tryd.func19 rfl (run_mroot _ _) (by kernel_rfl) (by kernel_rfl) (by kernel_rfl) ?_ ?_
 ·exact fun W hW v z xs h=>h W hW
 have hL:LaidK (KW w):=KW_laid hlaid
 have hln:ps.length=n:=by have:=hr.1;simpa using this
 have hn0:0<n:=by rw [← hln];exact List.length_pos_iff.2 h0
 have hA:=SX.rd_some hr
 rw [← hds_eq]at hr
 have hK1:KW w (.slice A n c) 1 (ps.flatMap fun p=>[p.1]):=fun W hW=>⟨hr.same0 hW,hc⟩
 have hKp:∀ p∈ps,KW w p.1 1 (p.2.flatMap c8):=fun p hm W hW=>by
  have h:=hp p hm
  obtain⟨A,n,c,e,h1,h2⟩:=arg_sl h
  rw [e];exact⟨h1.same0 hW,h2⟩
 unfold tree_mroot
 refine SX.D (.int .i64 (n:Int)) ?_
 refine SX.E (.bool (decide ((n:Int)=0))) (fun α=>cast (by kernel_rfl) (rfl:SX.binV .eql (.int .i64 (n:Int)) (.int .i64 0)=some (.bool (decide ((n:Int)=0))))) ?_
 refine SX.B (decide ((n:Int)=0)) (fun h=>absurd (of_decide_eq_true h) (by omega)) (fun _=>?_)
 refine SX.D (.int .i64 (n:Int)) ?_
 refine SX.VC_loop (fun xs=>∃ k:Nat,k≤n∧xs=[.int .i64 (k:Int),.agg (dgs ((ps.take k).map lfD)).toArray]) (fun xs=>match xs with|.int _ k::_=>n-k.toNat|_=>0) (fun α=>⟨0,by omega,by kernel_rfl⟩) ?_
 rintro xs-⟨k,hk,rfl⟩
 refine SX.E (.bool (decide (k<n))) (fun α=>cast (by kernel_rfl) (lss_nat k n)) ?_
 refine SX.B (decide (k<n)) (fun h1=>?_) (fun h1=>?_)
 ·have h1:k<n:=by simpa using h1
  obtain⟨p,hp1⟩:∃ p,ps[k]?=some p:=⟨_,List.getElem?_eq_getElem (by omega)⟩
  have hpm:=List.mem_of_getElem? hp1
  have htk:(ps.take (k+1)).map lfD=(ps.take k).map lfD++[lfD p]:=by rw [List.take_add_one,hp1];simp
  refine SX.E (.bool true) (fun α=>SX.extBnd (A:=A) (n:=n) (c:=c) (j:=k) hA (by kernel_rfl) (by kernel_rfl) h1) ?_
  refine SX.VC_df p.1 (fun α=>SX.extElem (o:=0) (v:=p.1) (f:=fun p:Pb=>[p.1]) (l:=ps) (A:=A) (n:=n) (c:=c) (j:=k) (z:=p) (fun _=>rfl) hA (by kernel_rfl) (by kernel_rfl) h1 (cast (by kernel_rfl) hK1) hp1 (by decide) (by kernel_rfl)) (by obtain⟨A,n,c,e,_⟩:=arg_sl (hp p hpm);rw [e];rfl) ?_
  refine SX.E (dgV (lfD p)) (fun α=>⟨[⟨p.1,1,p.2.flatMap c8⟩],⟨by kernel_rfl,rfl,cast (by kernel_rfl) (hKp p hpm),trivial⟩,⟨rfl,hL,p.1,p.2,rfl,(hpl p hpm).1,(hpl p hpm).2,rfl⟩,SX.noAli rfl⟩) ?_
  generalize lfD p=D at *
  refine SX.E (.agg ([D].flatMap cellsDg).toArray) (fun α=>SX.app_rel (f:=cellsDg) (l1:=(ps.take k).map lfD) (l2:=[D]) (fun _=>rfl) cellsDg_one (by decide) (SX.cat1 (j:=5) (by kernel_rfl)) ⟨⟨.slice (some ⟨(α 6).b,0,none⟩) 1 1,32,[D].flatMap cellsDg⟩,⟨by kernel_rfl,trivial⟩,rfl,rfl⟩ (by simp;omega) (by simp;omega)) ?_
  refine SX.E (.int .i64 ((k+1:Nat):Int)) (fun α=>cast (by kernel_rfl) (i_add' (a:=k) (b:=1) (d:=k+1) rfl (by omega))) ?_
  exact VC_again2 rfl (fun α=>⟨k+1,by omega,Eq.trans (b:=[.int .i64 ((k+1:Nat):Int),.agg ([Value.agg (dgs ((ps.take k).map lfD)).toArray,.agg ([D].flatMap cellsDg).toArray].flatMap SX.cellsV).toArray]) (by kernel_rfl) (by rw [htk];simp [SX.cellsV,dgs])⟩) (fun α=>cast (by kernel_rfl) (show n-((k+1:Nat):Int).toNat<n-(k:Int).toNat by omega))
 have h1:¬ k<n:=by simpa using h1
 have htk:ps.take k=ps:=List.take_of_length_le (by omega)
 rw [htk]
 have hml:(ps.map lfD).length=n:=by rw [List.length_map,hln]
 generalize ps.map lfD=ds at *
 refine SX.VC_loop (fun xs=>∃ (l:List Dg) (d:List Value),xs=.agg (dgs l).toArray::d∧0<l.length∧l.length≤n∧topE l=topE ds∧d.length=32) (fun xs=>match xs with|.agg cs::_=>cs.toList.length|_=>0) (fun α=>⟨ds,List.replicate 32 (.int .u8 0),Eq.trans (b:=.agg ([Value.agg (dgs ds).toArray].flatMap SX.cellsV).toArray::List.replicate 32 (.int .u8 0)) (by kernel_rfl) (by simp [SX.cellsV]),by omega,by omega,rfl,rfl⟩) ?_
 rintro xs-⟨l,d,rfl,hl0,hl1,hI,hd⟩
 obtain⟨d0,d1,d2,d3,d4,d5,d6,d7,d8,d9,d10,d11,d12,d13,d14,d15,d16,d17,d18,d19,d20,d21,d22,d23,d24,d25,d26,d27,d28,d29,d30,d31,rfl⟩:∃ d0 d1 d2 d3 d4 d5 d6 d7 d8 d9 d10 d11 d12 d13 d14 d15 d16 d17 d18 d19 d20 d21 d22 d23 d24 d25 d26 d27 d28 d29 d30 d31,d=[d0,d1,d2,d3,d4,d5,d6,d7,d8,d9,d10,d11,d12,d13,d14,d15,d16,d17,d18,d19,d20,d21,d22,d23,d24,d25,d26,d27,d28,d29,d30,d31]:=by
  refine⟨d[0],d[1],d[2],d[3],d[4],d[5],d[6],d[7],d[8],d[9],d[10],d[11],d[12],d[13],d[14],d[15],d[16],d[17],d[18],d[19],d[20],d[21],d[22],d[23],d[24],d[25],d[26],d[27],d[28],d[29],d[30],d[31],?_⟩
  apply List.ext_getElem hd
  intro i h1 h2
  have:i<32:=by omega
  rcases i with _|_|_|_|_|_|_|_|_|_|_|_|_|_|_|_|_|_|_|_|_|_|_|_|_|_|_|_|_|_|_|_|i<;>first|rfl|omega
 obtain⟨x,hx⟩:∃ x,l[0]?=some x:=⟨_,List.getElem?_eq_getElem hl0⟩
 refine SX.E (.bool true) (fun α=>SX.row_bnd (f:=cellsDg) (l:=l) (fun _=>rfl) (by decide) (SX.cat1 (j:=7) (by kernel_rfl)) (by kernel_rfl) hl0) ?_
 refine SX.E (dgV x) (fun α=>SX.relemsD (k:=0) (f:=cellsDg) (l:=l) (fun _=>rfl) (by decide) (SX.cat1 (j:=7) (by kernel_rfl)) (by kernel_rfl) hx) ?_
 refine SX.E (.int .i64 (l.length:Int)) (fun α=>SX.rlenD (f:=cellsDg) (l:=l) (fun _=>rfl) (by decide) (SX.cat1 (j:=7) (by kernel_rfl))) ?_
 refine SX.E (.bool (decide (1<l.length))) (fun α=>cast (by kernel_rfl) (gtr_nat l.length 1)) ?_
 refine SX.B (decide (1<l.length)) (fun h2=>?_) (fun h2=>?_)
 ·have h2:1<l.length:=by simpa using h2
  have hu:=upE_len l
  have ht:=topE_up (l:=l) (by omega)
  refine SX.VC_df (.agg (dgs (upE l)).toArray) (fun α=>⟨[⟨(α 6).h,32,dgs l⟩],⟨Eq.trans (SX.argNil (α 6).h 32 (dgs l)) (by kernel_rfl),trivial⟩,up_nc _ _ hL (by omega)⟩) rfl ?_
  generalize upE l=l2 at *
  exact VC_again2 rfl (fun α=>⟨l2,cellsDg x,Eq.trans (b:=.agg ([Value.agg (dgs l2).toArray].flatMap SX.cellsV).toArray::cellsDg x) (by kernel_rfl) (by simp [SX.cellsV]),by omega,by omega,by rw [ht,hI],rfl⟩) (fun α=>cast (by kernel_rfl) (show([Value.agg (dgs l2).toArray].flatMap SX.cellsV).length<(dgs l).length by simp [SX.cellsV,dgs_len];omega))
 have h2:¬ 1<l.length:=by simpa using h2
 have hx2:dgV x=dgV (topE ds):=by
  rw [← hI,topE_one (by omega),List.headD_eq_head?_getD,List.head?_eq_getElem?,hx];rfl
 exact SX.VC_ret fun α W _ _ hS=>by rw [← hx2];exact SX.ret_of hS (x:=dgV x) (by kernel_rfl) rfl
theorem i_xor1{a:Nat}(ha:a<2 ^ 62):SX.binV .xor (.int .i64 (a:Int)) (.int .i64 (1:Int))=some (.int .i64 ((a^^^1:Nat):Int)):=by
 have hb:a^^^1<2 ^ 62:=Nat.xor_lt_two_pow ha (by decide)
 have h:(BitVec.ofInt 64 (a:Int)^^^BitVec.ofInt 64 (1:Int)).toNat=a^^^1:=by
  rw [BitVec.toNat_xor,BitVec.toNat_ofInt,BitVec.toNat_ofInt]
  congr 1
  omega
 show some (Value.int .i64 (IntKind.i64.wrap ((BitVec.ofInt 64 (a:Int)^^^BitVec.ofInt 64 (1:Int)).toNat:Int)))=_
 rw [h,wrap_i64 (by omega) (by omega)]
theorem i_quo2{a:Nat}(ha:a<2 ^ 62):SX.binV .quo (.int .i64 (a:Int)) (.int .i64 (2:Int))=some (.int .i64 ((a / 2:Nat):Int)):=by
 have h2:(a:Int).tdiv 2=((a / 2:Nat):Int):=by
  rw [Int.tdiv_eq_ediv_of_nonneg (by omega)];rfl
 simp only [SX.binV,if_true,h2]
 rw [if_neg (by decide),wrap_i64 (by omega) (by omega)]
def proveE(l:List Dg)(i:Nat):List Dg :=
 l[i^^^1]?.toList++if h:l.length≤1 then []else proveE (upE l) (i / 2)
termination_by l.length
decreasing_by rw [upE_len];omega
theorem proveE_one{l:List Dg}{i:Nat}(h:l.length≤1):proveE l i=l[i^^^1]?.toList:=by rw [proveE,dif_pos h,List.append_nil]
theorem proveE_up{l:List Dg}{i:Nat}(h:¬ l.length≤1):proveE l i=l[i^^^1]?.toList++proveE (upE l) (i / 2):=by rw [proveE,dif_neg h]
def tree_mprove:SX.Tree :=
(.df (.len false) [(.q 0)] .one
(.df (.bin .gtr 3) [(.q 2),(.i 65536)] .one
(.br 3 []
(.ret (.t [(.k (.slice none 0 0)),(.i 1)]) [none,none] [])
(.df (.bin .lss 3) [(.q 1),(.i 0)] .one
(.br 4 []
(.ret (.t [(.k (.slice none 0 0)),(.i 1)]) [none,none] [])
(.df (.len false) [(.q 0)] .one
(.df (.bin .geq 3) [(.q 1),(.q 5)] .one
(.br 6 []
(.ret (.t [(.k (.slice none 0 0)),(.i 1)]) [none,none] [])
(.df (.len false) [(.q 0)] .one
(.loop [(.i 0),(.cat [])] [.one,.any]
(.df (.bin .lss 3) [(.q 8),(.q 7)] .one
(.br 10 []
(.df .bnd [(.q 0),(.q 8)] .one
(.df (.elem 1 0) [(.q 0),(.q 8)] .one
(.df (.call 68 [(.ext 1)]) [(.q 12)] (.ag 32)
(.df (.app 32 32 (.own 32 (SX.Y 13 0 32))) [(.cat [(.q 9)]),(.sl 7 0 1 1)] .any
(.df (.bin .add 3) [(.q 8),(.i 1)] .one
(.again 0 [(.q 15),(.cat [(.q 9),(.q 14)])]))))))
(.loop [(.cat [(.q 9)]),(.q 1),(.cat [])] [.any,.one,.any]
(.df (.bin .xor 3) [(.q 12),(.i 1)] .one
(.df (.rlen 32) [(.cat [(.q 11)])] .one
(.df (.bin .lss 3) [(.q 14),(.q 15)] .one
(.br 16 []
(.df (.rbnd 32) [(.cat [(.q 11)]),(.q 14)] .one
(.df (.relems 32 0 32) [(.cat [(.q 11)]),(.q 14)] (.ag 32)
(.df (.app 32 32 (.own 32 (SX.Y 18 0 32))) [(.cat [(.q 13)]),(.sl 16 0 1 1)] .any
(.df (.bin .quo 3) [(.q 12),(.i 2)] .one
(.df (.rlen 32) [(.cat [(.q 11)])] .one
(.df (.bin .gtr 3) [(.q 21),(.i 1)] .one
(.br 22 []
(.df (.calln 69 [(.row 32 [(.q 11)])] 32 23) [(.row 8)] .any
(.again 1 [(.cat [(.q 23)]),(.q 20),(.cat [(.q 13),(.q 19)])]))
(.ret (.t [(.row 17),(.i 0)]) (List.replicate 17 none++[(some ⟨[(.q 13),(.q 19)],23,(.row 32)⟩)]) []))))))))
(.df (.bin .quo 3) [(.q 12),(.i 2)] .one
(.df (.rlen 32) [(.cat [(.q 11)])] .one
(.df (.bin .gtr 3) [(.q 18),(.i 1)] .one
(.br 19 []
(.df (.calln 69 [(.row 32 [(.q 11)])] 32 23) [(.row 8)] .any
(.again 1 [(.cat [(.q 20)]),(.q 17),(.cat [(.q 13)])]))
(.ret (.t [(.row 10),(.i 0)]) (List.replicate 10 none++[(some ⟨[(.q 13)],23,(.row 32)⟩)]) []))))))))))))))))))))))
def args_mprove:List SX.V:=[.x 0 [],.x 1 []]
def cfgProve:SX.Cfg:=⟨fun f=>f != 69,[⟨67,2,[(.s 8,.one),(.s 3,.row 32 23)]⟩,⟨67,6,[(.s 3,.row 32 23),(.c 0 0,.one),(.c 1 0,.row 32 23)]⟩],2,100⟩
set_option maxRecDepth 100000 in
theorem run_mprove(K A:Value→Nat→List Value→Prop):(SX.run (cxM3 K A) cfgProve 100000 0 (SX.door 25 Tryd.f25 args_mprove [.one,.one]) [.code (Tryd.f25.body.getD .skip),.top Tryd.f25]).strip=tree_mprove:=by kernel_rfl
set_option maxRecDepth 100000 in
set_option maxHeartbeats 4000000 in
theorem prove_any(ps:List Pb)(at_:Nat)(A:Option Addr)(n c:Nat)(w:World)(hr:Rd w 1 A n (ps.map (·.1)))(hc:n≤c)(hat:at_<ps.length)(hl:ps.length≤65536)(hp:∀ p∈ps,SX.Arg.rd w ⟨p.1,1,p.2.flatMap c8⟩)(hpl:∀ p∈ps,p.2≠[]∧p.2.length≤17592186044416)(hlaid:Laid w):Calls Tryd.prog 25 #[.slice A n c,.int .i64 (at_:Int)] w fun e w'=>Below w.heap.size w w'∧∃ hdr,e=.returned (.tuple #[hdr,.int .i64 0])∧SX.SlRet w w' [] hdr 32 (dgs (proveE (ps.map lfD) at_)):=by
 refine SX.calls_of_run (C:=cxM3 (KW w) (fun _ _ _=>False)) (G:=cfgProve) (args:=args_mprove) (sh:=[.one,.one]) (ρ:=[.slice A n c,.int .i64 (at_:Int)]) 100000 tree_mprove (okM3 _ _) Tryd.func25 rfl (run_mprove _ _) (by kernel_rfl) (by kernel_rfl) (by kernel_rfl) ?_ ?_
 ·exact fun W hW v z xs h=>h W hW
 have hL:LaidK (KW w):=KW_laid hlaid
 have hln:ps.length=n:=by have:=hr.1;simpa using this
 have hA:=SX.rd_some hr
 rw [← hds_eq]at hr
 have hK1:KW w (.slice A n c) 1 (ps.flatMap fun p=>[p.1]):=fun W hW=>⟨hr.same0 hW,hc⟩
 have hKp:∀ p∈ps,KW w p.1 1 (p.2.flatMap c8):=fun p hm W hW=>by
  have h:=hp p hm
  obtain⟨A,n,c,e,h1,h2⟩:=arg_sl h
  rw [e];exact⟨h1.same0 hW,h2⟩
 unfold tree_mprove
 refine SX.D (.int .i64 (n:Int)) ?_
 refine SX.E (.bool (decide (65536<n))) (fun α=>cast (by kernel_rfl) (gtr_nat n 65536)) ?_
 refine SX.B (decide (65536<n)) (fun h=>absurd (of_decide_eq_true h) (by omega)) (fun _=>?_)
 refine SX.E (.bool (decide (at_<0))) (fun α=>cast (by kernel_rfl) (lss_nat at_ 0)) ?_
 refine SX.B (decide (at_<0)) (fun h=>absurd (of_decide_eq_true h) (by omega)) (fun _=>?_)
 refine SX.D (.int .i64 (n:Int)) ?_
 refine SX.E (.bool (decide (n≤at_))) (fun α=>cast (by kernel_rfl) (geq_nat at_ n)) ?_
 refine SX.B (decide (n≤at_)) (fun h=>absurd (of_decide_eq_true h) (by omega)) (fun _=>?_)
 refine SX.D (.int .i64 (n:Int)) ?_
 refine SX.VC_loop (fun xs=>∃ k:Nat,k≤n∧xs=[.int .i64 (k:Int),.agg (dgs ((ps.take k).map lfD)).toArray]) (fun xs=>match xs with|.int _ k::_=>n-k.toNat|_=>0) (fun α=>⟨0,by omega,by kernel_rfl⟩) ?_
 rintro xs-⟨k,hk,rfl⟩
 refine SX.E (.bool (decide (k<n))) (fun α=>cast (by kernel_rfl) (lss_nat k n)) ?_
 refine SX.B (decide (k<n)) (fun h1=>?_) (fun h1=>?_)
 ·have h1:k<n:=by simpa using h1
  obtain⟨p,hp1⟩:∃ p,ps[k]?=some p:=⟨_,List.getElem?_eq_getElem (by omega)⟩
  have hpm:=List.mem_of_getElem? hp1
  have htk:(ps.take (k+1)).map lfD=(ps.take k).map lfD++[lfD p]:=by rw [List.take_add_one,hp1];simp
  refine SX.E (.bool true) (fun α=>SX.extBnd (A:=A) (n:=n) (c:=c) (j:=k) hA (by kernel_rfl) (by kernel_rfl) h1) ?_
  refine SX.VC_df p.1 (fun α=>SX.extElem (o:=0) (v:=p.1) (f:=fun p:Pb=>[p.1]) (l:=ps) (A:=A) (n:=n) (c:=c) (j:=k) (z:=p) (fun _=>rfl) hA (by kernel_rfl) (by kernel_rfl) h1 (cast (by kernel_rfl) hK1) hp1 (by decide) (by kernel_rfl)) (by obtain⟨A,n,c,e,_⟩:=arg_sl (hp p hpm);rw [e];rfl) ?_
  refine SX.E (dgV (lfD p)) (fun α=>⟨[⟨p.1,1,p.2.flatMap c8⟩],⟨by kernel_rfl,rfl,cast (by kernel_rfl) (hKp p hpm),trivial⟩,⟨rfl,hL,p.1,p.2,rfl,(hpl p hpm).1,(hpl p hpm).2,rfl⟩,SX.noAli rfl⟩) ?_
  generalize lfD p=D at *
  refine SX.E (.agg ([D].flatMap cellsDg).toArray) (fun α=>SX.app_rel (f:=cellsDg) (l1:=(ps.take k).map lfD) (l2:=[D]) (fun _=>rfl) cellsDg_one (by decide) (SX.cat1 (j:=9) (by kernel_rfl)) ⟨⟨.slice (some ⟨(α 7).b,0,none⟩) 1 1,32,[D].flatMap cellsDg⟩,⟨by kernel_rfl,trivial⟩,rfl,rfl⟩ (by simp;omega) (by simp;omega)) ?_
  refine SX.E (.int .i64 ((k+1:Nat):Int)) (fun α=>cast (by kernel_rfl) (i_add' (a:=k) (b:=1) (d:=k+1) rfl (by omega))) ?_
  exact VC_again2 rfl (fun α=>⟨k+1,by omega,Eq.trans (b:=[.int .i64 ((k+1:Nat):Int),.agg ([Value.agg (dgs ((ps.take k).map lfD)).toArray,.agg ([D].flatMap cellsDg).toArray].flatMap SX.cellsV).toArray]) (by kernel_rfl) (by rw [htk];simp [SX.cellsV,dgs])⟩) (fun α=>cast (by kernel_rfl) (show n-((k+1:Nat):Int).toNat<n-(k:Int).toNat by omega))
 have h1:¬ k<n:=by simpa using h1
 have htk:ps.take k=ps:=List.take_of_length_le (by omega)
 rw [htk]
 have hml:(ps.map lfD).length=n:=by rw [List.length_map,hln]
 generalize ps.map lfD=ds at *
 refine SX.VC_loop (fun xs=>∃ (l:List Dg) (i:Nat) (acc:List Dg),xs=[.agg (dgs l).toArray,.int .i64 (i:Int),.agg (dgs acc).toArray]∧0<l.length∧acc.length+l.length≤n+1∧i<65536∧acc++proveE l i=proveE ds at_) (fun xs=>match xs with|.agg cs::_=>cs.toList.length|_=>0) (fun α=>⟨ds,at_,[],Eq.trans (b:=[.agg ([Value.agg (dgs ds).toArray].flatMap SX.cellsV).toArray,.int .i64 (at_:Int),.agg #[]]) (by kernel_rfl) (by simp [SX.cellsV,dgs]),by omega,by simp;omega,by omega,rfl⟩) ?_
 rintro xs-⟨l,i,acc,rfl,hl0,hl1,hi,hI⟩
 have hu:=upE_len l
 refine SX.E (.int .i64 ((i^^^1:Nat):Int)) (fun α=>cast (by kernel_rfl) (i_xor1 (a:=i) (by omega))) ?_
 refine SX.E (.int .i64 (l.length:Int)) (fun α=>SX.rlenD (f:=cellsDg) (l:=l) (fun _=>rfl) (by decide) (SX.cat1 (j:=11) (by kernel_rfl))) ?_
 refine SX.E (.bool (decide ((i^^^1)<l.length))) (fun α=>cast (by kernel_rfl) (lss_nat (i^^^1) l.length)) ?_
 refine SX.B (decide ((i^^^1)<l.length)) (fun h3=>?_) (fun h3=>?_)
 ·have h3:(i^^^1)<l.length:=by simpa using h3
  obtain⟨x,hx⟩:∃ x,l[i^^^1]?=some x:=⟨_,List.getElem?_eq_getElem h3⟩
  refine SX.E (.bool true) (fun α=>SX.row_bnd (f:=cellsDg) (l:=l) (fun _=>rfl) (by decide) (SX.cat1 (j:=11) (by kernel_rfl)) (by kernel_rfl) h3) ?_
  refine SX.E (dgV x) (fun α=>SX.relemsD (k:=i^^^1) (f:=cellsDg) (l:=l) (fun _=>rfl) (by decide) (SX.cat1 (j:=11) (by kernel_rfl)) (by kernel_rfl) hx) ?_
  refine SX.E (.agg ([x].flatMap cellsDg).toArray) (fun α=>SX.app_rel (f:=cellsDg) (l1:=acc) (l2:=[x]) (fun _=>rfl) cellsDg_one (by decide) (SX.cat1 (j:=13) (by kernel_rfl)) ⟨⟨.slice (some ⟨(α 16).b,0,none⟩) 1 1,32,[x].flatMap cellsDg⟩,⟨by kernel_rfl,trivial⟩,rfl,rfl⟩ (by simp;omega) (by simp;omega)) ?_
  refine SX.E (.int .i64 ((i / 2:Nat):Int)) (fun α=>cast (by kernel_rfl) (i_quo2 (a:=i) (by omega))) ?_
  refine SX.E (.int .i64 (l.length:Int)) (fun α=>SX.rlenD (f:=cellsDg) (l:=l) (fun _=>rfl) (by decide) (SX.cat1 (j:=11) (by kernel_rfl))) ?_
  refine SX.E (.bool (decide (1<l.length))) (fun α=>cast (by kernel_rfl) (gtr_nat l.length 1)) ?_
  refine SX.B (decide (1<l.length)) (fun h2=>?_) (fun h2=>?_)
  ·have h2:1<l.length:=by simpa using h2
   rw [proveE_up (by omega),hx]at hI
   refine SX.VC_df (.agg (dgs (upE l)).toArray) (fun α=>⟨[⟨(α 8).h,32,dgs l⟩],⟨Eq.trans (SX.argNil (α 8).h 32 (dgs l)) (by kernel_rfl),trivial⟩,up_nc _ _ hL (by omega)⟩) rfl ?_
   generalize upE l=l2 at *
   exact VC_again2 rfl (fun α=>⟨l2,i / 2,acc++[x],Eq.trans (b:=[.agg ([Value.agg (dgs l2).toArray].flatMap SX.cellsV).toArray,.int .i64 ((i / 2:Nat):Int),.agg ([Value.agg (dgs acc).toArray,.agg ([x].flatMap cellsDg).toArray].flatMap SX.cellsV).toArray]) (by kernel_rfl) (by simp [SX.cellsV,dgs]),by omega,by simp;omega,by omega,by rw [← hI];simp⟩) (fun α=>cast (by kernel_rfl) (show([Value.agg (dgs l2).toArray].flatMap SX.cellsV).length<(dgs l).length by simp [SX.cellsV,dgs_len];omega))
  have h2:¬ 1<l.length:=by simpa using h2
  rw [proveE_one (by omega),hx]at hI
  exact SX.VC_ret fun α W _ hrow hS=>⟨hS.below,_,by kernel_rfl,SX.SlRet.row hS (n:=17) (b:=(⟨[(.x 13 []),(.x 19 [])],23,(.row 32)⟩:SX.Blk)) (by kernel_rfl) rfl (hrow 17 _ (by kernel_rfl)) (Eq.trans (b:=[Value.agg (dgs acc).toArray,.agg ([x].flatMap cellsDg).toArray].flatMap SX.cellsV) (by kernel_rfl) (by rw [← hI];simp [SX.cellsV,dgs]))⟩
 have h3:¬ (i^^^1)<l.length:=by simpa using h3
 have hx:l[i^^^1]?=none:=List.getElem?_eq_none (by omega)
 refine SX.E (.int .i64 ((i / 2:Nat):Int)) (fun α=>cast (by kernel_rfl) (i_quo2 (a:=i) (by omega))) ?_
 refine SX.E (.int .i64 (l.length:Int)) (fun α=>SX.rlenD (f:=cellsDg) (l:=l) (fun _=>rfl) (by decide) (SX.cat1 (j:=11) (by kernel_rfl))) ?_
 refine SX.E (.bool (decide (1<l.length))) (fun α=>cast (by kernel_rfl) (gtr_nat l.length 1)) ?_
 refine SX.B (decide (1<l.length)) (fun h2=>?_) (fun h2=>?_)
 ·have h2:1<l.length:=by simpa using h2
  rw [proveE_up (by omega),hx]at hI
  refine SX.VC_df (.agg (dgs (upE l)).toArray) (fun α=>⟨[⟨(α 8).h,32,dgs l⟩],⟨Eq.trans (SX.argNil (α 8).h 32 (dgs l)) (by kernel_rfl),trivial⟩,up_nc _ _ hL (by omega)⟩) rfl ?_
  generalize upE l=l2 at *
  exact VC_again2 rfl (fun α=>⟨l2,i / 2,acc,Eq.trans (b:=[.agg ([Value.agg (dgs l2).toArray].flatMap SX.cellsV).toArray,.int .i64 ((i / 2:Nat):Int),.agg ([Value.agg (dgs acc).toArray].flatMap SX.cellsV).toArray]) (by kernel_rfl) (by simp [SX.cellsV,dgs]),by omega,by omega,by omega,by rw [← hI];simp⟩) (fun α=>cast (by kernel_rfl) (show([Value.agg (dgs l2).toArray].flatMap SX.cellsV).length<(dgs l).length by simp [SX.cellsV,dgs_len];omega))
 have h2:¬ 1<l.length:=by simpa using h2
 rw [proveE_one (by omega),hx]at hI
 exact SX.VC_ret fun α W _ hrow hS=>⟨hS.below,_,by kernel_rfl,SX.SlRet.row hS (n:=10) (b:=(⟨[(.x 13 [])],23,(.row 32)⟩:SX.Blk)) (by kernel_rfl) rfl (hrow 10 _ (by kernel_rfl)) (Eq.trans (b:=[Value.agg (dgs acc).toArray].flatMap SX.cellsV) (by kernel_rfl) (by rw [← hI];simp [SX.cellsV,dgs]))⟩
end Go.Proofs.YtidekfgkpindbaaDoor
