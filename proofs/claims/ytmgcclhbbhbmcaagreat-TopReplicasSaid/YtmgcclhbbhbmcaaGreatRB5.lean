/-
  Texts behind the statement, part 5.
-/
import Derived.Test.YtmgcclhbbhbmcaaGreatRB4
set_option linter.unusedSimpArgs false
set_option linter.unusedVariables false
namespace Go.Proofs.YtmgcclhbbhbmcaaGreat
open Go Go.RowKit
namespace Z
structure Pq where
 r0:Rp
 r1:Rp
 s0:Int
 s1:Int
 told:List Le
 k0:List Ca
 k1:List Ca
def dSt(p:Pq)(w:D):D:=.agg [iv p.r0.self,.sl false 64 (p.r0.le.map dLe) .non,.sl false 66 (p.r0.ca.map dCa) .non,.sl false 4 (p.r0.od.map bv) .non,iv p.r1.self,.sl false 64 (p.r1.le.map dLe) .non,.sl false 66 (p.r1.ca.map dCa) .non,.sl false 4 (p.r1.od.map bv) .non,iv p.s0,iv p.s1,.sl false 64 (p.told.map dLe) .non,.sl false 66 (p.k0.map dCa) .non,.sl false 66 (p.k1.map dCa) .non,w]
def kSt:SK0:=.row [.i .i64,.sl 64,.sl 66,.sl 4,.i .i64,.sl 64,.sl 66,.sl 4,.i .i64,.i .i64,.sl 64,.sl 66,.sl 66,.i .i64]
abbrev fCa (c:Ca):D:=.fn (.func 97) [] [.ep (dCa c) 0]
abbrev fLe (l:Le):D:=.fn (.func 98) [] [.ep (dLe l) 0]
def nSyn(w:Int)(g:FuncId)(cs:List CK)(st:LoopState)(pe:PE):List (Nat×BK):=[(0,.each 110 1 [.el kSt]),(1,.each 108 1 [.fix (.p 0 0 0)]),(2,.each 3 1 [.fix (ik w)]),(3,.each 151 1 [.fn g [.imm cs]]),(4,.each 4 1 [.el kB]),(5,.each 27 1 [.el kRp]),(6,.mk),(7,.rc 72 33 [(3,.fix (.p 1 0 0)),(4,.fix (.p 2 0 0)),(5,.fix (.p 3 0 0)),(6,.fix (.p 4 0 0))] st pe)]
def gSyn(w:Int)(g:FuncId)(cs:List CK):LCfg:=⟨55,12,12,⟨[(0,.fix (.y 7)),(1,.fix (.p 5 0 0)),(3,.el (.one (.sl 64))),(4,.el (.one (.sl 66))),(13,.el (.one (.sl 4))),(14,sI),(15,sI)],nSyn w g cs .ready .non⟩,[(.exit 0,⟨[],nSyn w g cs .ready .non⟩),(.ret,⟨[],nSyn w g cs .ready .non⟩),(.ret,⟨[],nSyn w g cs .done .ret⟩)]⟩
noncomputable def cSyn(w:Int)(g:FuncId)(cs:List CK):Cf:=cf [97,98] [⟨26,72,2,(26,0),gSyn w g cs⟩] []
noncomputable abbrev lSyn (g:FuncId):List FuncId:=[72,13,26,g]
noncomputable def eSyn(w:Int)(g:FuncId)(cs:List CK):LId→LSt→M Rd1:=fun id L=>(gSyn w g cs).round PP (kitF PP (cSyn w g cs) (callT PP (cSyn w g cs) [g]) (yhF PP (cSyn w g cs) (callT PP (cSyn w g cs) [13,26,g] yh0) yh0.run 72) 26) (lcode 26 0) L
abbrev ckCa:List CK:=[.i .i64,.i .i64]
abbrev ckLe:List CK:=[.i .i64,.i .i64,.i .i64]
theorem t_sy097(p:Pq)(w:Int)(c:Ca):callRB (cSyn 0 97 ckCa) (lSyn 97) 72 [ik 0,fCa c] 0 1 110 (dSt p (iv w))=(M.loop (26,0) (ls [D.y 7,D.p 5 0 0,sl 64 (List.map dLe (Pq.r0 p).2),sl 66 (List.map dCa (Pq.r0 p).3),sl 4 (List.map bv (Pq.r0 p).4),iv (nI (List.length (List.map bv (Pq.r0 p).4))),iv (0:Int)] [Blk.arr true 110 1 [dSt p (iv w)],Blk.arr true 108 1 [D.p 0 0 0],b1 3 (ik (0:Int)),Blk.arr true 151 1 [D.fn (Fn.func 97) [] [D.ep (D.agg [iv c.1,iv c.2]) 0]],b1 4 (bv false),Blk.arr true 27 1 [D.agg [iv (Pq.r0 p).1,sl 64 (List.map dLe (Pq.r0 p).2),sl 66 (List.map dCa (Pq.r0 p).3),sl 4 (List.map bv (Pq.r0 p).4)]],Blk.mk,Blk.rc 72 [D.p 1 0 0,D.p 2 0 0,D.p 3 0 0,D.p 4 0 0] LoopState.ready PE.non]) (fun L0=>M.pure (Rs.ret (bk false),Blk.arr true 110 1 [D.agg [iv (D.int (D.cell (vb L0 0) 0)),sl 64 (D.items (D.cell (vb L0 0) 1)),sl 66 (D.items (D.cell (vb L0 0) 2)),sl 4 (D.items (D.cell (vb L0 0) 3)),iv (D.int (D.cell (vb L0 0) 4)),sl 64 (D.items (D.cell (vb L0 0) 5)),sl 66 (D.items (D.cell (vb L0 0) 6)),sl 4 (D.items (D.cell (vb L0 0) 7)),iv (D.int (D.cell (vb L0 0) 8)),iv (D.int (D.cell (vb L0 0) 9)),sl 64 (D.items (D.cell (vb L0 0) 10)),sl 66 (D.items (D.cell (vb L0 0) 11)),sl 66 (D.items (D.cell (vb L0 0) 12)),iv (D.int (D.cell (vb L0 0) 13))]])) (fun L0=>M.pure (Rs.ret (bk false),Blk.arr true 110 1 [D.agg [iv (D.int (D.cell (vb L0 0) 0)),sl 64 (D.items (D.cell (vb L0 0) 1)),sl 66 (D.items (D.cell (vb L0 0) 2)),sl 4 (D.items (D.cell (vb L0 0) 3)),iv (D.int (D.cell (vb L0 0) 4)),sl 64 (D.items (D.cell (vb L0 0) 5)),sl 66 (D.items (D.cell (vb L0 0) 6)),sl 4 (D.items (D.cell (vb L0 0) 7)),iv (D.int (D.cell (vb L0 0) 8)),iv (D.int (D.cell (vb L0 0) 9)),sl 64 (D.items (D.cell (vb L0 0) 10)),sl 66 (D.items (D.cell (vb L0 0) 11)),sl 66 (D.items (D.cell (vb L0 0) 12)),iv (D.int (D.cell (vb L0 0) 13))]])) fun L0=>M.pure (Rs.ret (bv (D.bool (vb L0 4))),Blk.arr true 110 1 [D.agg [iv (D.int (D.cell (vb L0 0) 0)),sl 64 (D.items (D.cell (vb L0 0) 1)),sl 66 (D.items (D.cell (vb L0 0) 2)),sl 4 (D.items (D.cell (vb L0 0) 3)),iv (D.int (D.cell (vb L0 0) 4)),sl 64 (D.items (D.cell (vb L0 0) 5)),sl 66 (D.items (D.cell (vb L0 0) 6)),sl 4 (D.items (D.cell (vb L0 0) 7)),iv (D.int (D.cell (vb L0 0) 8)),iv (D.int (D.cell (vb L0 0) 9)),sl 64 (D.items (D.cell (vb L0 0) 10)),sl 66 (D.items (D.cell (vb L0 0) 11)),sl 66 (D.items (D.cell (vb L0 0) 12)),iv (D.int (D.cell (vb L0 0) 13))]])):=by kernel_rfl
theorem rd_sy097(p:Pq)(w:Int)(c:Ca)(b:Bool)(r:Rp)(le:List Le)(ca:List Ca)(od:List D)(n i:Int):eSyn 0 97 ckCa (26,0) ⟨[.y 7,.p 5 0 0,sl 64 (le.map dLe),sl 66 (ca.map dCa),sl 4 od,iv n,iv i],[.arr true 110 1 [dSt p (iv w)],.arr true 108 1 [.p 0 0 0],.arr true 3 1 [ik 0],.arr true 151 1 [fCa c],.arr true 4 1 [bv b],.arr true 27 1 [dRp r],.mk,.rc 72 [.p 1 0 0,.p 2 0 0,.p 3 0 0,.p 4 0 0] .ready .non],[]⟩=(M.br (decide (i<n)) (M.get od i fun d0=>M.br (D.bool d0) (M.br (decide (nI (List.length (List.map dLe le))>(0:Int))) (M.get (List.map dLe le) (0:Int) fun d1=>M.need (decide ((0:Int)≤(1:Int)∧(1:Int)≤nI (List.length (List.map dLe le))∧nI (List.length (List.map dLe le))≤nI (List.length (List.map dLe le)))) (M.br (decide (i<p.3)) (M.br (!D.bool d0) (M.br (decide ((0:Int)=c.1) && (decide ((0:Int)=c.2) && true)) (M.pure (some 2,(ls [] [Blk.arr true 110 1 [dSt p (iv w)],Blk.arr true 108 1 [D.p 0 0 0],b1 3 (ik (0:Int)),Blk.arr true 151 1 [D.fn (Fn.func 97) [] [D.ep (D.agg [iv c.1,iv c.2]) 0]],b1 4 (bv true),b1 27 (dRp r),Blk.mk,Blk.rc 72 [D.p 1 0 0,D.p 2 0 0,D.p 3 0 0,D.p 4 0 0] LoopState.done PE.ret]))) (M.pure (none,(ls [D.y 7,D.p 5 0 0,sl 64 (List.drop 1 (List.map dLe le)),sl 66 (List.map dCa ca),sl 4 od,iv n,iv (w64 (i+(1:Int)))] [Blk.arr true 110 1 [dSt p (iv w)],Blk.arr true 108 1 [D.p 0 0 0],b1 3 (ik (0:Int)),Blk.arr true 151 1 [D.fn (Fn.func 97) [] [D.ep (D.agg [iv c.1,iv c.2]) 0]],b1 4 (bv b),b1 27 (dRp r),Blk.mk,Blk.rc 72 [D.p 1 0 0,D.p 2 0 0,D.p 3 0 0,D.p 4 0 0] LoopState.ready PE.non])))) (M.pure (none,(ls [D.y 7,D.p 5 0 0,sl 64 (List.drop 1 (List.map dLe le)),sl 66 (List.map dCa ca),sl 4 od,iv n,iv (w64 (i+(1:Int)))] [Blk.arr true 110 1 [dSt p (iv w)],Blk.arr true 108 1 [D.p 0 0 0],b1 3 (ik (0:Int)),Blk.arr true 151 1 [D.fn (Fn.func 97) [] [D.ep (D.agg [iv c.1,iv c.2]) 0]],b1 4 (bv b),b1 27 (dRp r),Blk.mk,Blk.rc 72 [D.p 1 0 0,D.p 2 0 0,D.p 3 0 0,D.p 4 0 0] LoopState.ready PE.non])))) (M.pure (none,(ls [D.y 7,D.p 5 0 0,sl 64 (List.drop 1 (List.map dLe le)),sl 66 (List.map dCa ca),sl 4 od,iv n,iv (w64 (i+(1:Int)))] [Blk.arr true 110 1 [dSt p (iv w)],Blk.arr true 108 1 [D.p 0 0 0],b1 3 (ik (0:Int)),Blk.arr true 151 1 [D.fn (Fn.func 97) [] [D.ep (D.agg [iv c.1,iv c.2]) 0]],b1 4 (bv b),b1 27 (dRp r),Blk.mk,Blk.rc 72 [D.p 1 0 0,D.p 2 0 0,D.p 3 0 0,D.p 4 0 0] LoopState.ready PE.non]))))) (M.br (!D.bool d0) (M.br (decide (nI (List.length (List.map dCa ca))>(0:Int))) (M.get (List.map dCa ca) (0:Int) fun d1=>M.need (decide ((0:Int)≤(1:Int)∧(1:Int)≤nI (List.length (List.map dCa ca))∧nI (List.length (List.map dCa ca))≤nI (List.length (List.map dCa ca)))) (M.br (decide (i<p.3)) (M.br (!D.bool d0) (M.br (decide (D.int (D.cell d1 0)=c.1) && (decide (D.int (D.cell d1 1)=c.2) && true)) (M.pure (some 2,(ls [] [Blk.arr true 110 1 [dSt p (iv w)],Blk.arr true 108 1 [D.p 0 0 0],b1 3 (ik (0:Int)),Blk.arr true 151 1 [D.fn (Fn.func 97) [] [D.ep (D.agg [iv c.1,iv c.2]) 0]],b1 4 (bv true),b1 27 (dRp r),Blk.mk,Blk.rc 72 [D.p 1 0 0,D.p 2 0 0,D.p 3 0 0,D.p 4 0 0] LoopState.done PE.ret]))) (M.pure (none,(ls [D.y 7,D.p 5 0 0,sl 64 (List.map dLe le),sl 66 (List.drop 1 (List.map dCa ca)),sl 4 od,iv n,iv (w64 (i+(1:Int)))] [Blk.arr true 110 1 [dSt p (iv w)],Blk.arr true 108 1 [D.p 0 0 0],b1 3 (ik (0:Int)),Blk.arr true 151 1 [D.fn (Fn.func 97) [] [D.ep (D.agg [iv c.1,iv c.2]) 0]],b1 4 (bv b),b1 27 (dRp r),Blk.mk,Blk.rc 72 [D.p 1 0 0,D.p 2 0 0,D.p 3 0 0,D.p 4 0 0] LoopState.ready PE.non])))) (M.pure (none,(ls [D.y 7,D.p 5 0 0,sl 64 (List.map dLe le),sl 66 (List.drop 1 (List.map dCa ca)),sl 4 od,iv n,iv (w64 (i+(1:Int)))] [Blk.arr true 110 1 [dSt p (iv w)],Blk.arr true 108 1 [D.p 0 0 0],b1 3 (ik (0:Int)),Blk.arr true 151 1 [D.fn (Fn.func 97) [] [D.ep (D.agg [iv c.1,iv c.2]) 0]],b1 4 (bv b),b1 27 (dRp r),Blk.mk,Blk.rc 72 [D.p 1 0 0,D.p 2 0 0,D.p 3 0 0,D.p 4 0 0] LoopState.ready PE.non])))) (M.pure (none,(ls [D.y 7,D.p 5 0 0,sl 64 (List.map dLe le),sl 66 (List.drop 1 (List.map dCa ca)),sl 4 od,iv n,iv (w64 (i+(1:Int)))] [Blk.arr true 110 1 [dSt p (iv w)],Blk.arr true 108 1 [D.p 0 0 0],b1 3 (ik (0:Int)),Blk.arr true 151 1 [D.fn (Fn.func 97) [] [D.ep (D.agg [iv c.1,iv c.2]) 0]],b1 4 (bv b),b1 27 (dRp r),Blk.mk,Blk.rc 72 [D.p 1 0 0,D.p 2 0 0,D.p 3 0 0,D.p 4 0 0] LoopState.ready PE.non]))))) (M.pure (some 1,(ls [] [Blk.arr true 110 1 [dSt p (iv w)],Blk.arr true 108 1 [D.p 0 0 0],b1 3 (ik (0:Int)),Blk.arr true 151 1 [D.fn (Fn.func 97) [] [D.ep (D.agg [iv c.1,iv c.2]) 0]],b1 4 (bv b),b1 27 (dRp r),Blk.mk,Blk.rc 72 [D.p 1 0 0,D.p 2 0 0,D.p 3 0 0,D.p 4 0 0] LoopState.ready PE.non])))) (M.pure (some 1,(ls [] [Blk.arr true 110 1 [dSt p (iv w)],Blk.arr true 108 1 [D.p 0 0 0],b1 3 (ik (0:Int)),Blk.arr true 151 1 [D.fn (Fn.func 97) [] [D.ep (D.agg [iv c.1,iv c.2]) 0]],b1 4 (bv b),b1 27 (dRp r),Blk.mk,Blk.rc 72 [D.p 1 0 0,D.p 2 0 0,D.p 3 0 0,D.p 4 0 0] LoopState.ready PE.non]))))) (M.br (!D.bool d0) (M.br (decide (nI (List.length (List.map dCa ca))>(0:Int))) (M.get (List.map dCa ca) (0:Int) fun d1=>M.need (decide ((0:Int)≤(1:Int)∧(1:Int)≤nI (List.length (List.map dCa ca))∧nI (List.length (List.map dCa ca))≤nI (List.length (List.map dCa ca)))) (M.br (decide (i<p.3)) (M.br (!D.bool d0) (M.br (decide (D.int (D.cell d1 0)=c.1) && (decide (D.int (D.cell d1 1)=c.2) && true)) (M.pure (some 2,(ls [] [Blk.arr true 110 1 [dSt p (iv w)],Blk.arr true 108 1 [D.p 0 0 0],b1 3 (ik (0:Int)),Blk.arr true 151 1 [D.fn (Fn.func 97) [] [D.ep (D.agg [iv c.1,iv c.2]) 0]],b1 4 (bv true),b1 27 (dRp r),Blk.mk,Blk.rc 72 [D.p 1 0 0,D.p 2 0 0,D.p 3 0 0,D.p 4 0 0] LoopState.done PE.ret]))) (M.pure (none,(ls [D.y 7,D.p 5 0 0,sl 64 (List.map dLe le),sl 66 (List.drop 1 (List.map dCa ca)),sl 4 od,iv n,iv (w64 (i+(1:Int)))] [Blk.arr true 110 1 [dSt p (iv w)],Blk.arr true 108 1 [D.p 0 0 0],b1 3 (ik (0:Int)),Blk.arr true 151 1 [D.fn (Fn.func 97) [] [D.ep (D.agg [iv c.1,iv c.2]) 0]],b1 4 (bv b),b1 27 (dRp r),Blk.mk,Blk.rc 72 [D.p 1 0 0,D.p 2 0 0,D.p 3 0 0,D.p 4 0 0] LoopState.ready PE.non])))) (M.pure (none,(ls [D.y 7,D.p 5 0 0,sl 64 (List.map dLe le),sl 66 (List.drop 1 (List.map dCa ca)),sl 4 od,iv n,iv (w64 (i+(1:Int)))] [Blk.arr true 110 1 [dSt p (iv w)],Blk.arr true 108 1 [D.p 0 0 0],b1 3 (ik (0:Int)),Blk.arr true 151 1 [D.fn (Fn.func 97) [] [D.ep (D.agg [iv c.1,iv c.2]) 0]],b1 4 (bv b),b1 27 (dRp r),Blk.mk,Blk.rc 72 [D.p 1 0 0,D.p 2 0 0,D.p 3 0 0,D.p 4 0 0] LoopState.ready PE.non])))) (M.pure (none,(ls [D.y 7,D.p 5 0 0,sl 64 (List.map dLe le),sl 66 (List.drop 1 (List.map dCa ca)),sl 4 od,iv n,iv (w64 (i+(1:Int)))] [Blk.arr true 110 1 [dSt p (iv w)],Blk.arr true 108 1 [D.p 0 0 0],b1 3 (ik (0:Int)),Blk.arr true 151 1 [D.fn (Fn.func 97) [] [D.ep (D.agg [iv c.1,iv c.2]) 0]],b1 4 (bv b),b1 27 (dRp r),Blk.mk,Blk.rc 72 [D.p 1 0 0,D.p 2 0 0,D.p 3 0 0,D.p 4 0 0] LoopState.ready PE.non]))))) (M.pure (some 1,(ls [] [Blk.arr true 110 1 [dSt p (iv w)],Blk.arr true 108 1 [D.p 0 0 0],b1 3 (ik (0:Int)),Blk.arr true 151 1 [D.fn (Fn.func 97) [] [D.ep (D.agg [iv c.1,iv c.2]) 0]],b1 4 (bv b),b1 27 (dRp r),Blk.mk,Blk.rc 72 [D.p 1 0 0,D.p 2 0 0,D.p 3 0 0,D.p 4 0 0] LoopState.ready PE.non])))) (M.pure (some 1,(ls [] [Blk.arr true 110 1 [dSt p (iv w)],Blk.arr true 108 1 [D.p 0 0 0],b1 3 (ik (0:Int)),Blk.arr true 151 1 [D.fn (Fn.func 97) [] [D.ep (D.agg [iv c.1,iv c.2]) 0]],b1 4 (bv b),b1 27 (dRp r),Blk.mk,Blk.rc 72 [D.p 1 0 0,D.p 2 0 0,D.p 3 0 0,D.p 4 0 0] LoopState.ready PE.non]))))) (M.pure (some 0,(ls [] [Blk.arr true 110 1 [dSt p (iv w)],Blk.arr true 108 1 [D.p 0 0 0],b1 3 (ik (0:Int)),Blk.arr true 151 1 [D.fn (Fn.func 97) [] [D.ep (D.agg [iv c.1,iv c.2]) 0]],b1 4 (bv b),b1 27 (dRp r),Blk.mk,Blk.rc 72 [D.p 1 0 0,D.p 2 0 0,D.p 3 0 0,D.p 4 0 0] LoopState.ready PE.non])))):=by kernel_rfl
theorem t_sy098(p:Pq)(w:Int)(l:Le):callRB (cSyn 0 98 ckLe) (lSyn 98) 72 [ik 0,fLe l] 0 1 110 (dSt p (iv w))=(M.loop (26,0) (ls [D.y 7,D.p 5 0 0,sl 64 (List.map dLe (Pq.r0 p).2),sl 66 (List.map dCa (Pq.r0 p).3),sl 4 (List.map bv (Pq.r0 p).4),iv (nI (List.length (List.map bv (Pq.r0 p).4))),iv (0:Int)] [Blk.arr true 110 1 [dSt p (iv w)],Blk.arr true 108 1 [D.p 0 0 0],b1 3 (ik (0:Int)),Blk.arr true 151 1 [D.fn (Fn.func 98) [] [D.ep (D.agg [iv l.1,iv l.2,iv l.3]) 0]],b1 4 (bv false),Blk.arr true 27 1 [D.agg [iv (Pq.r0 p).1,sl 64 (List.map dLe (Pq.r0 p).2),sl 66 (List.map dCa (Pq.r0 p).3),sl 4 (List.map bv (Pq.r0 p).4)]],Blk.mk,Blk.rc 72 [D.p 1 0 0,D.p 2 0 0,D.p 3 0 0,D.p 4 0 0] LoopState.ready PE.non]) (fun L0=>M.pure (Rs.ret (bk false),Blk.arr true 110 1 [D.agg [iv (D.int (D.cell (vb L0 0) 0)),sl 64 (D.items (D.cell (vb L0 0) 1)),sl 66 (D.items (D.cell (vb L0 0) 2)),sl 4 (D.items (D.cell (vb L0 0) 3)),iv (D.int (D.cell (vb L0 0) 4)),sl 64 (D.items (D.cell (vb L0 0) 5)),sl 66 (D.items (D.cell (vb L0 0) 6)),sl 4 (D.items (D.cell (vb L0 0) 7)),iv (D.int (D.cell (vb L0 0) 8)),iv (D.int (D.cell (vb L0 0) 9)),sl 64 (D.items (D.cell (vb L0 0) 10)),sl 66 (D.items (D.cell (vb L0 0) 11)),sl 66 (D.items (D.cell (vb L0 0) 12)),iv (D.int (D.cell (vb L0 0) 13))]])) (fun L0=>M.pure (Rs.ret (bk false),Blk.arr true 110 1 [D.agg [iv (D.int (D.cell (vb L0 0) 0)),sl 64 (D.items (D.cell (vb L0 0) 1)),sl 66 (D.items (D.cell (vb L0 0) 2)),sl 4 (D.items (D.cell (vb L0 0) 3)),iv (D.int (D.cell (vb L0 0) 4)),sl 64 (D.items (D.cell (vb L0 0) 5)),sl 66 (D.items (D.cell (vb L0 0) 6)),sl 4 (D.items (D.cell (vb L0 0) 7)),iv (D.int (D.cell (vb L0 0) 8)),iv (D.int (D.cell (vb L0 0) 9)),sl 64 (D.items (D.cell (vb L0 0) 10)),sl 66 (D.items (D.cell (vb L0 0) 11)),sl 66 (D.items (D.cell (vb L0 0) 12)),iv (D.int (D.cell (vb L0 0) 13))]])) fun L0=>M.pure (Rs.ret (bv (D.bool (vb L0 4))),Blk.arr true 110 1 [D.agg [iv (D.int (D.cell (vb L0 0) 0)),sl 64 (D.items (D.cell (vb L0 0) 1)),sl 66 (D.items (D.cell (vb L0 0) 2)),sl 4 (D.items (D.cell (vb L0 0) 3)),iv (D.int (D.cell (vb L0 0) 4)),sl 64 (D.items (D.cell (vb L0 0) 5)),sl 66 (D.items (D.cell (vb L0 0) 6)),sl 4 (D.items (D.cell (vb L0 0) 7)),iv (D.int (D.cell (vb L0 0) 8)),iv (D.int (D.cell (vb L0 0) 9)),sl 64 (D.items (D.cell (vb L0 0) 10)),sl 66 (D.items (D.cell (vb L0 0) 11)),sl 66 (D.items (D.cell (vb L0 0) 12)),iv (D.int (D.cell (vb L0 0) 13))]])):=by kernel_rfl
theorem rd_sy098(p:Pq)(w:Int)(l:Le)(b:Bool)(r:Rp)(le:List Le)(ca:List Ca)(od:List D)(n i:Int):eSyn 0 98 ckLe (26,0) ⟨[.y 7,.p 5 0 0,sl 64 (le.map dLe),sl 66 (ca.map dCa),sl 4 od,iv n,iv i],[.arr true 110 1 [dSt p (iv w)],.arr true 108 1 [.p 0 0 0],.arr true 3 1 [ik 0],.arr true 151 1 [fLe l],.arr true 4 1 [bv b],.arr true 27 1 [dRp r],.mk,.rc 72 [.p 1 0 0,.p 2 0 0,.p 3 0 0,.p 4 0 0] .ready .non],[]⟩=(M.br (decide (i<n)) (M.get od i fun d0=>M.br (D.bool d0) (M.br (decide (nI (List.length (List.map dLe le))>(0:Int))) (M.get (List.map dLe le) (0:Int) fun d1=>M.need (decide ((0:Int)≤(1:Int)∧(1:Int)≤nI (List.length (List.map dLe le))∧nI (List.length (List.map dLe le))≤nI (List.length (List.map dLe le)))) (M.br (decide (i<p.3)) (M.br (D.bool d0) (M.br (decide (D.int (D.cell d1 0)=l.1) && (decide (D.int (D.cell d1 1)=l.2) && (decide (D.int (D.cell d1 2)=l.3) && true))) (M.pure (some 2,(ls [] [Blk.arr true 110 1 [dSt p (iv w)],Blk.arr true 108 1 [D.p 0 0 0],b1 3 (ik (0:Int)),Blk.arr true 151 1 [D.fn (Fn.func 98) [] [D.ep (D.agg [iv l.1,iv l.2,iv l.3]) 0]],b1 4 (bv true),b1 27 (dRp r),Blk.mk,Blk.rc 72 [D.p 1 0 0,D.p 2 0 0,D.p 3 0 0,D.p 4 0 0] LoopState.done PE.ret]))) (M.pure (none,(ls [D.y 7,D.p 5 0 0,sl 64 (List.drop 1 (List.map dLe le)),sl 66 (List.map dCa ca),sl 4 od,iv n,iv (w64 (i+(1:Int)))] [Blk.arr true 110 1 [dSt p (iv w)],Blk.arr true 108 1 [D.p 0 0 0],b1 3 (ik (0:Int)),Blk.arr true 151 1 [D.fn (Fn.func 98) [] [D.ep (D.agg [iv l.1,iv l.2,iv l.3]) 0]],b1 4 (bv b),b1 27 (dRp r),Blk.mk,Blk.rc 72 [D.p 1 0 0,D.p 2 0 0,D.p 3 0 0,D.p 4 0 0] LoopState.ready PE.non])))) (M.pure (none,(ls [D.y 7,D.p 5 0 0,sl 64 (List.drop 1 (List.map dLe le)),sl 66 (List.map dCa ca),sl 4 od,iv n,iv (w64 (i+(1:Int)))] [Blk.arr true 110 1 [dSt p (iv w)],Blk.arr true 108 1 [D.p 0 0 0],b1 3 (ik (0:Int)),Blk.arr true 151 1 [D.fn (Fn.func 98) [] [D.ep (D.agg [iv l.1,iv l.2,iv l.3]) 0]],b1 4 (bv b),b1 27 (dRp r),Blk.mk,Blk.rc 72 [D.p 1 0 0,D.p 2 0 0,D.p 3 0 0,D.p 4 0 0] LoopState.ready PE.non])))) (M.pure (none,(ls [D.y 7,D.p 5 0 0,sl 64 (List.drop 1 (List.map dLe le)),sl 66 (List.map dCa ca),sl 4 od,iv n,iv (w64 (i+(1:Int)))] [Blk.arr true 110 1 [dSt p (iv w)],Blk.arr true 108 1 [D.p 0 0 0],b1 3 (ik (0:Int)),Blk.arr true 151 1 [D.fn (Fn.func 98) [] [D.ep (D.agg [iv l.1,iv l.2,iv l.3]) 0]],b1 4 (bv b),b1 27 (dRp r),Blk.mk,Blk.rc 72 [D.p 1 0 0,D.p 2 0 0,D.p 3 0 0,D.p 4 0 0] LoopState.ready PE.non]))))) (M.br (!D.bool d0) (M.br (decide (nI (List.length (List.map dCa ca))>(0:Int))) (M.get (List.map dCa ca) (0:Int) fun d1=>M.need (decide ((0:Int)≤(1:Int)∧(1:Int)≤nI (List.length (List.map dCa ca))∧nI (List.length (List.map dCa ca))≤nI (List.length (List.map dCa ca)))) (M.br (decide (i<p.3)) (M.br (D.bool d0) (M.br (decide ((0:Int)=l.1) && (decide ((0:Int)=l.2) && (decide ((0:Int)=l.3) && true))) (M.pure (some 2,(ls [] [Blk.arr true 110 1 [dSt p (iv w)],Blk.arr true 108 1 [D.p 0 0 0],b1 3 (ik (0:Int)),Blk.arr true 151 1 [D.fn (Fn.func 98) [] [D.ep (D.agg [iv l.1,iv l.2,iv l.3]) 0]],b1 4 (bv true),b1 27 (dRp r),Blk.mk,Blk.rc 72 [D.p 1 0 0,D.p 2 0 0,D.p 3 0 0,D.p 4 0 0] LoopState.done PE.ret]))) (M.pure (none,(ls [D.y 7,D.p 5 0 0,sl 64 (List.map dLe le),sl 66 (List.drop 1 (List.map dCa ca)),sl 4 od,iv n,iv (w64 (i+(1:Int)))] [Blk.arr true 110 1 [dSt p (iv w)],Blk.arr true 108 1 [D.p 0 0 0],b1 3 (ik (0:Int)),Blk.arr true 151 1 [D.fn (Fn.func 98) [] [D.ep (D.agg [iv l.1,iv l.2,iv l.3]) 0]],b1 4 (bv b),b1 27 (dRp r),Blk.mk,Blk.rc 72 [D.p 1 0 0,D.p 2 0 0,D.p 3 0 0,D.p 4 0 0] LoopState.ready PE.non])))) (M.pure (none,(ls [D.y 7,D.p 5 0 0,sl 64 (List.map dLe le),sl 66 (List.drop 1 (List.map dCa ca)),sl 4 od,iv n,iv (w64 (i+(1:Int)))] [Blk.arr true 110 1 [dSt p (iv w)],Blk.arr true 108 1 [D.p 0 0 0],b1 3 (ik (0:Int)),Blk.arr true 151 1 [D.fn (Fn.func 98) [] [D.ep (D.agg [iv l.1,iv l.2,iv l.3]) 0]],b1 4 (bv b),b1 27 (dRp r),Blk.mk,Blk.rc 72 [D.p 1 0 0,D.p 2 0 0,D.p 3 0 0,D.p 4 0 0] LoopState.ready PE.non])))) (M.pure (none,(ls [D.y 7,D.p 5 0 0,sl 64 (List.map dLe le),sl 66 (List.drop 1 (List.map dCa ca)),sl 4 od,iv n,iv (w64 (i+(1:Int)))] [Blk.arr true 110 1 [dSt p (iv w)],Blk.arr true 108 1 [D.p 0 0 0],b1 3 (ik (0:Int)),Blk.arr true 151 1 [D.fn (Fn.func 98) [] [D.ep (D.agg [iv l.1,iv l.2,iv l.3]) 0]],b1 4 (bv b),b1 27 (dRp r),Blk.mk,Blk.rc 72 [D.p 1 0 0,D.p 2 0 0,D.p 3 0 0,D.p 4 0 0] LoopState.ready PE.non]))))) (M.pure (some 1,(ls [] [Blk.arr true 110 1 [dSt p (iv w)],Blk.arr true 108 1 [D.p 0 0 0],b1 3 (ik (0:Int)),Blk.arr true 151 1 [D.fn (Fn.func 98) [] [D.ep (D.agg [iv l.1,iv l.2,iv l.3]) 0]],b1 4 (bv b),b1 27 (dRp r),Blk.mk,Blk.rc 72 [D.p 1 0 0,D.p 2 0 0,D.p 3 0 0,D.p 4 0 0] LoopState.ready PE.non])))) (M.pure (some 1,(ls [] [Blk.arr true 110 1 [dSt p (iv w)],Blk.arr true 108 1 [D.p 0 0 0],b1 3 (ik (0:Int)),Blk.arr true 151 1 [D.fn (Fn.func 98) [] [D.ep (D.agg [iv l.1,iv l.2,iv l.3]) 0]],b1 4 (bv b),b1 27 (dRp r),Blk.mk,Blk.rc 72 [D.p 1 0 0,D.p 2 0 0,D.p 3 0 0,D.p 4 0 0] LoopState.ready PE.non]))))) (M.br (!D.bool d0) (M.br (decide (nI (List.length (List.map dCa ca))>(0:Int))) (M.get (List.map dCa ca) (0:Int) fun d1=>M.need (decide ((0:Int)≤(1:Int)∧(1:Int)≤nI (List.length (List.map dCa ca))∧nI (List.length (List.map dCa ca))≤nI (List.length (List.map dCa ca)))) (M.br (decide (i<p.3)) (M.br (D.bool d0) (M.br (decide ((0:Int)=l.1) && (decide ((0:Int)=l.2) && (decide ((0:Int)=l.3) && true))) (M.pure (some 2,(ls [] [Blk.arr true 110 1 [dSt p (iv w)],Blk.arr true 108 1 [D.p 0 0 0],b1 3 (ik (0:Int)),Blk.arr true 151 1 [D.fn (Fn.func 98) [] [D.ep (D.agg [iv l.1,iv l.2,iv l.3]) 0]],b1 4 (bv true),b1 27 (dRp r),Blk.mk,Blk.rc 72 [D.p 1 0 0,D.p 2 0 0,D.p 3 0 0,D.p 4 0 0] LoopState.done PE.ret]))) (M.pure (none,(ls [D.y 7,D.p 5 0 0,sl 64 (List.map dLe le),sl 66 (List.drop 1 (List.map dCa ca)),sl 4 od,iv n,iv (w64 (i+(1:Int)))] [Blk.arr true 110 1 [dSt p (iv w)],Blk.arr true 108 1 [D.p 0 0 0],b1 3 (ik (0:Int)),Blk.arr true 151 1 [D.fn (Fn.func 98) [] [D.ep (D.agg [iv l.1,iv l.2,iv l.3]) 0]],b1 4 (bv b),b1 27 (dRp r),Blk.mk,Blk.rc 72 [D.p 1 0 0,D.p 2 0 0,D.p 3 0 0,D.p 4 0 0] LoopState.ready PE.non])))) (M.pure (none,(ls [D.y 7,D.p 5 0 0,sl 64 (List.map dLe le),sl 66 (List.drop 1 (List.map dCa ca)),sl 4 od,iv n,iv (w64 (i+(1:Int)))] [Blk.arr true 110 1 [dSt p (iv w)],Blk.arr true 108 1 [D.p 0 0 0],b1 3 (ik (0:Int)),Blk.arr true 151 1 [D.fn (Fn.func 98) [] [D.ep (D.agg [iv l.1,iv l.2,iv l.3]) 0]],b1 4 (bv b),b1 27 (dRp r),Blk.mk,Blk.rc 72 [D.p 1 0 0,D.p 2 0 0,D.p 3 0 0,D.p 4 0 0] LoopState.ready PE.non])))) (M.pure (none,(ls [D.y 7,D.p 5 0 0,sl 64 (List.map dLe le),sl 66 (List.drop 1 (List.map dCa ca)),sl 4 od,iv n,iv (w64 (i+(1:Int)))] [Blk.arr true 110 1 [dSt p (iv w)],Blk.arr true 108 1 [D.p 0 0 0],b1 3 (ik (0:Int)),Blk.arr true 151 1 [D.fn (Fn.func 98) [] [D.ep (D.agg [iv l.1,iv l.2,iv l.3]) 0]],b1 4 (bv b),b1 27 (dRp r),Blk.mk,Blk.rc 72 [D.p 1 0 0,D.p 2 0 0,D.p 3 0 0,D.p 4 0 0] LoopState.ready PE.non]))))) (M.pure (some 1,(ls [] [Blk.arr true 110 1 [dSt p (iv w)],Blk.arr true 108 1 [D.p 0 0 0],b1 3 (ik (0:Int)),Blk.arr true 151 1 [D.fn (Fn.func 98) [] [D.ep (D.agg [iv l.1,iv l.2,iv l.3]) 0]],b1 4 (bv b),b1 27 (dRp r),Blk.mk,Blk.rc 72 [D.p 1 0 0,D.p 2 0 0,D.p 3 0 0,D.p 4 0 0] LoopState.ready PE.non])))) (M.pure (some 1,(ls [] [Blk.arr true 110 1 [dSt p (iv w)],Blk.arr true 108 1 [D.p 0 0 0],b1 3 (ik (0:Int)),Blk.arr true 151 1 [D.fn (Fn.func 98) [] [D.ep (D.agg [iv l.1,iv l.2,iv l.3]) 0]],b1 4 (bv b),b1 27 (dRp r),Blk.mk,Blk.rc 72 [D.p 1 0 0,D.p 2 0 0,D.p 3 0 0,D.p 4 0 0] LoopState.ready PE.non]))))) (M.pure (some 0,(ls [] [Blk.arr true 110 1 [dSt p (iv w)],Blk.arr true 108 1 [D.p 0 0 0],b1 3 (ik (0:Int)),Blk.arr true 151 1 [D.fn (Fn.func 98) [] [D.ep (D.agg [iv l.1,iv l.2,iv l.3]) 0]],b1 4 (bv b),b1 27 (dRp r),Blk.mk,Blk.rc 72 [D.p 1 0 0,D.p 2 0 0,D.p 3 0 0,D.p 4 0 0] LoopState.ready PE.non])))):=by kernel_rfl
theorem t_sy197(p:Pq)(w:Int)(c:Ca):callRB (cSyn 1 97 ckCa) (lSyn 97) 72 [ik 1,fCa c] 0 1 110 (dSt p (iv w))=(M.loop (26,0) (ls [D.y 7,D.p 5 0 0,sl 64 (List.map dLe (Pq.r1 p).2),sl 66 (List.map dCa (Pq.r1 p).3),sl 4 (List.map bv (Pq.r1 p).4),iv (nI (List.length (List.map bv (Pq.r1 p).4))),iv (0:Int)] [Blk.arr true 110 1 [dSt p (iv w)],Blk.arr true 108 1 [D.p 0 0 0],b1 3 (ik (1:Int)),Blk.arr true 151 1 [D.fn (Fn.func 97) [] [D.ep (D.agg [iv c.1,iv c.2]) 0]],b1 4 (bv false),Blk.arr true 27 1 [D.agg [iv (Pq.r1 p).1,sl 64 (List.map dLe (Pq.r1 p).2),sl 66 (List.map dCa (Pq.r1 p).3),sl 4 (List.map bv (Pq.r1 p).4)]],Blk.mk,Blk.rc 72 [D.p 1 0 0,D.p 2 0 0,D.p 3 0 0,D.p 4 0 0] LoopState.ready PE.non]) (fun L0=>M.pure (Rs.ret (bk false),Blk.arr true 110 1 [D.agg [iv (D.int (D.cell (vb L0 0) 0)),sl 64 (D.items (D.cell (vb L0 0) 1)),sl 66 (D.items (D.cell (vb L0 0) 2)),sl 4 (D.items (D.cell (vb L0 0) 3)),iv (D.int (D.cell (vb L0 0) 4)),sl 64 (D.items (D.cell (vb L0 0) 5)),sl 66 (D.items (D.cell (vb L0 0) 6)),sl 4 (D.items (D.cell (vb L0 0) 7)),iv (D.int (D.cell (vb L0 0) 8)),iv (D.int (D.cell (vb L0 0) 9)),sl 64 (D.items (D.cell (vb L0 0) 10)),sl 66 (D.items (D.cell (vb L0 0) 11)),sl 66 (D.items (D.cell (vb L0 0) 12)),iv (D.int (D.cell (vb L0 0) 13))]])) (fun L0=>M.pure (Rs.ret (bk false),Blk.arr true 110 1 [D.agg [iv (D.int (D.cell (vb L0 0) 0)),sl 64 (D.items (D.cell (vb L0 0) 1)),sl 66 (D.items (D.cell (vb L0 0) 2)),sl 4 (D.items (D.cell (vb L0 0) 3)),iv (D.int (D.cell (vb L0 0) 4)),sl 64 (D.items (D.cell (vb L0 0) 5)),sl 66 (D.items (D.cell (vb L0 0) 6)),sl 4 (D.items (D.cell (vb L0 0) 7)),iv (D.int (D.cell (vb L0 0) 8)),iv (D.int (D.cell (vb L0 0) 9)),sl 64 (D.items (D.cell (vb L0 0) 10)),sl 66 (D.items (D.cell (vb L0 0) 11)),sl 66 (D.items (D.cell (vb L0 0) 12)),iv (D.int (D.cell (vb L0 0) 13))]])) fun L0=>M.pure (Rs.ret (bv (D.bool (vb L0 4))),Blk.arr true 110 1 [D.agg [iv (D.int (D.cell (vb L0 0) 0)),sl 64 (D.items (D.cell (vb L0 0) 1)),sl 66 (D.items (D.cell (vb L0 0) 2)),sl 4 (D.items (D.cell (vb L0 0) 3)),iv (D.int (D.cell (vb L0 0) 4)),sl 64 (D.items (D.cell (vb L0 0) 5)),sl 66 (D.items (D.cell (vb L0 0) 6)),sl 4 (D.items (D.cell (vb L0 0) 7)),iv (D.int (D.cell (vb L0 0) 8)),iv (D.int (D.cell (vb L0 0) 9)),sl 64 (D.items (D.cell (vb L0 0) 10)),sl 66 (D.items (D.cell (vb L0 0) 11)),sl 66 (D.items (D.cell (vb L0 0) 12)),iv (D.int (D.cell (vb L0 0) 13))]])):=by kernel_rfl
theorem rd_sy197(p:Pq)(w:Int)(c:Ca)(b:Bool)(r:Rp)(le:List Le)(ca:List Ca)(od:List D)(n i:Int):eSyn 1 97 ckCa (26,0) ⟨[.y 7,.p 5 0 0,sl 64 (le.map dLe),sl 66 (ca.map dCa),sl 4 od,iv n,iv i],[.arr true 110 1 [dSt p (iv w)],.arr true 108 1 [.p 0 0 0],.arr true 3 1 [ik 1],.arr true 151 1 [fCa c],.arr true 4 1 [bv b],.arr true 27 1 [dRp r],.mk,.rc 72 [.p 1 0 0,.p 2 0 0,.p 3 0 0,.p 4 0 0] .ready .non],[]⟩=(M.br (decide (i<n)) (M.get od i fun d0=>M.br (D.bool d0) (M.br (decide (nI (List.length (List.map dLe le))>(0:Int))) (M.get (List.map dLe le) (0:Int) fun d1=>M.need (decide ((0:Int)≤(1:Int)∧(1:Int)≤nI (List.length (List.map dLe le))∧nI (List.length (List.map dLe le))≤nI (List.length (List.map dLe le)))) (M.br (decide (i<p.4)) (M.br (!D.bool d0) (M.br (decide ((0:Int)=c.1) && (decide ((0:Int)=c.2) && true)) (M.pure (some 2,(ls [] [Blk.arr true 110 1 [dSt p (iv w)],Blk.arr true 108 1 [D.p 0 0 0],b1 3 (ik (1:Int)),Blk.arr true 151 1 [D.fn (Fn.func 97) [] [D.ep (D.agg [iv c.1,iv c.2]) 0]],b1 4 (bv true),b1 27 (dRp r),Blk.mk,Blk.rc 72 [D.p 1 0 0,D.p 2 0 0,D.p 3 0 0,D.p 4 0 0] LoopState.done PE.ret]))) (M.pure (none,(ls [D.y 7,D.p 5 0 0,sl 64 (List.drop 1 (List.map dLe le)),sl 66 (List.map dCa ca),sl 4 od,iv n,iv (w64 (i+(1:Int)))] [Blk.arr true 110 1 [dSt p (iv w)],Blk.arr true 108 1 [D.p 0 0 0],b1 3 (ik (1:Int)),Blk.arr true 151 1 [D.fn (Fn.func 97) [] [D.ep (D.agg [iv c.1,iv c.2]) 0]],b1 4 (bv b),b1 27 (dRp r),Blk.mk,Blk.rc 72 [D.p 1 0 0,D.p 2 0 0,D.p 3 0 0,D.p 4 0 0] LoopState.ready PE.non])))) (M.pure (none,(ls [D.y 7,D.p 5 0 0,sl 64 (List.drop 1 (List.map dLe le)),sl 66 (List.map dCa ca),sl 4 od,iv n,iv (w64 (i+(1:Int)))] [Blk.arr true 110 1 [dSt p (iv w)],Blk.arr true 108 1 [D.p 0 0 0],b1 3 (ik (1:Int)),Blk.arr true 151 1 [D.fn (Fn.func 97) [] [D.ep (D.agg [iv c.1,iv c.2]) 0]],b1 4 (bv b),b1 27 (dRp r),Blk.mk,Blk.rc 72 [D.p 1 0 0,D.p 2 0 0,D.p 3 0 0,D.p 4 0 0] LoopState.ready PE.non])))) (M.pure (none,(ls [D.y 7,D.p 5 0 0,sl 64 (List.drop 1 (List.map dLe le)),sl 66 (List.map dCa ca),sl 4 od,iv n,iv (w64 (i+(1:Int)))] [Blk.arr true 110 1 [dSt p (iv w)],Blk.arr true 108 1 [D.p 0 0 0],b1 3 (ik (1:Int)),Blk.arr true 151 1 [D.fn (Fn.func 97) [] [D.ep (D.agg [iv c.1,iv c.2]) 0]],b1 4 (bv b),b1 27 (dRp r),Blk.mk,Blk.rc 72 [D.p 1 0 0,D.p 2 0 0,D.p 3 0 0,D.p 4 0 0] LoopState.ready PE.non]))))) (M.br (!D.bool d0) (M.br (decide (nI (List.length (List.map dCa ca))>(0:Int))) (M.get (List.map dCa ca) (0:Int) fun d1=>M.need (decide ((0:Int)≤(1:Int)∧(1:Int)≤nI (List.length (List.map dCa ca))∧nI (List.length (List.map dCa ca))≤nI (List.length (List.map dCa ca)))) (M.br (decide (i<p.4)) (M.br (!D.bool d0) (M.br (decide (D.int (D.cell d1 0)=c.1) && (decide (D.int (D.cell d1 1)=c.2) && true)) (M.pure (some 2,(ls [] [Blk.arr true 110 1 [dSt p (iv w)],Blk.arr true 108 1 [D.p 0 0 0],b1 3 (ik (1:Int)),Blk.arr true 151 1 [D.fn (Fn.func 97) [] [D.ep (D.agg [iv c.1,iv c.2]) 0]],b1 4 (bv true),b1 27 (dRp r),Blk.mk,Blk.rc 72 [D.p 1 0 0,D.p 2 0 0,D.p 3 0 0,D.p 4 0 0] LoopState.done PE.ret]))) (M.pure (none,(ls [D.y 7,D.p 5 0 0,sl 64 (List.map dLe le),sl 66 (List.drop 1 (List.map dCa ca)),sl 4 od,iv n,iv (w64 (i+(1:Int)))] [Blk.arr true 110 1 [dSt p (iv w)],Blk.arr true 108 1 [D.p 0 0 0],b1 3 (ik (1:Int)),Blk.arr true 151 1 [D.fn (Fn.func 97) [] [D.ep (D.agg [iv c.1,iv c.2]) 0]],b1 4 (bv b),b1 27 (dRp r),Blk.mk,Blk.rc 72 [D.p 1 0 0,D.p 2 0 0,D.p 3 0 0,D.p 4 0 0] LoopState.ready PE.non])))) (M.pure (none,(ls [D.y 7,D.p 5 0 0,sl 64 (List.map dLe le),sl 66 (List.drop 1 (List.map dCa ca)),sl 4 od,iv n,iv (w64 (i+(1:Int)))] [Blk.arr true 110 1 [dSt p (iv w)],Blk.arr true 108 1 [D.p 0 0 0],b1 3 (ik (1:Int)),Blk.arr true 151 1 [D.fn (Fn.func 97) [] [D.ep (D.agg [iv c.1,iv c.2]) 0]],b1 4 (bv b),b1 27 (dRp r),Blk.mk,Blk.rc 72 [D.p 1 0 0,D.p 2 0 0,D.p 3 0 0,D.p 4 0 0] LoopState.ready PE.non])))) (M.pure (none,(ls [D.y 7,D.p 5 0 0,sl 64 (List.map dLe le),sl 66 (List.drop 1 (List.map dCa ca)),sl 4 od,iv n,iv (w64 (i+(1:Int)))] [Blk.arr true 110 1 [dSt p (iv w)],Blk.arr true 108 1 [D.p 0 0 0],b1 3 (ik (1:Int)),Blk.arr true 151 1 [D.fn (Fn.func 97) [] [D.ep (D.agg [iv c.1,iv c.2]) 0]],b1 4 (bv b),b1 27 (dRp r),Blk.mk,Blk.rc 72 [D.p 1 0 0,D.p 2 0 0,D.p 3 0 0,D.p 4 0 0] LoopState.ready PE.non]))))) (M.pure (some 1,(ls [] [Blk.arr true 110 1 [dSt p (iv w)],Blk.arr true 108 1 [D.p 0 0 0],b1 3 (ik (1:Int)),Blk.arr true 151 1 [D.fn (Fn.func 97) [] [D.ep (D.agg [iv c.1,iv c.2]) 0]],b1 4 (bv b),b1 27 (dRp r),Blk.mk,Blk.rc 72 [D.p 1 0 0,D.p 2 0 0,D.p 3 0 0,D.p 4 0 0] LoopState.ready PE.non])))) (M.pure (some 1,(ls [] [Blk.arr true 110 1 [dSt p (iv w)],Blk.arr true 108 1 [D.p 0 0 0],b1 3 (ik (1:Int)),Blk.arr true 151 1 [D.fn (Fn.func 97) [] [D.ep (D.agg [iv c.1,iv c.2]) 0]],b1 4 (bv b),b1 27 (dRp r),Blk.mk,Blk.rc 72 [D.p 1 0 0,D.p 2 0 0,D.p 3 0 0,D.p 4 0 0] LoopState.ready PE.non]))))) (M.br (!D.bool d0) (M.br (decide (nI (List.length (List.map dCa ca))>(0:Int))) (M.get (List.map dCa ca) (0:Int) fun d1=>M.need (decide ((0:Int)≤(1:Int)∧(1:Int)≤nI (List.length (List.map dCa ca))∧nI (List.length (List.map dCa ca))≤nI (List.length (List.map dCa ca)))) (M.br (decide (i<p.4)) (M.br (!D.bool d0) (M.br (decide (D.int (D.cell d1 0)=c.1) && (decide (D.int (D.cell d1 1)=c.2) && true)) (M.pure (some 2,(ls [] [Blk.arr true 110 1 [dSt p (iv w)],Blk.arr true 108 1 [D.p 0 0 0],b1 3 (ik (1:Int)),Blk.arr true 151 1 [D.fn (Fn.func 97) [] [D.ep (D.agg [iv c.1,iv c.2]) 0]],b1 4 (bv true),b1 27 (dRp r),Blk.mk,Blk.rc 72 [D.p 1 0 0,D.p 2 0 0,D.p 3 0 0,D.p 4 0 0] LoopState.done PE.ret]))) (M.pure (none,(ls [D.y 7,D.p 5 0 0,sl 64 (List.map dLe le),sl 66 (List.drop 1 (List.map dCa ca)),sl 4 od,iv n,iv (w64 (i+(1:Int)))] [Blk.arr true 110 1 [dSt p (iv w)],Blk.arr true 108 1 [D.p 0 0 0],b1 3 (ik (1:Int)),Blk.arr true 151 1 [D.fn (Fn.func 97) [] [D.ep (D.agg [iv c.1,iv c.2]) 0]],b1 4 (bv b),b1 27 (dRp r),Blk.mk,Blk.rc 72 [D.p 1 0 0,D.p 2 0 0,D.p 3 0 0,D.p 4 0 0] LoopState.ready PE.non])))) (M.pure (none,(ls [D.y 7,D.p 5 0 0,sl 64 (List.map dLe le),sl 66 (List.drop 1 (List.map dCa ca)),sl 4 od,iv n,iv (w64 (i+(1:Int)))] [Blk.arr true 110 1 [dSt p (iv w)],Blk.arr true 108 1 [D.p 0 0 0],b1 3 (ik (1:Int)),Blk.arr true 151 1 [D.fn (Fn.func 97) [] [D.ep (D.agg [iv c.1,iv c.2]) 0]],b1 4 (bv b),b1 27 (dRp r),Blk.mk,Blk.rc 72 [D.p 1 0 0,D.p 2 0 0,D.p 3 0 0,D.p 4 0 0] LoopState.ready PE.non])))) (M.pure (none,(ls [D.y 7,D.p 5 0 0,sl 64 (List.map dLe le),sl 66 (List.drop 1 (List.map dCa ca)),sl 4 od,iv n,iv (w64 (i+(1:Int)))] [Blk.arr true 110 1 [dSt p (iv w)],Blk.arr true 108 1 [D.p 0 0 0],b1 3 (ik (1:Int)),Blk.arr true 151 1 [D.fn (Fn.func 97) [] [D.ep (D.agg [iv c.1,iv c.2]) 0]],b1 4 (bv b),b1 27 (dRp r),Blk.mk,Blk.rc 72 [D.p 1 0 0,D.p 2 0 0,D.p 3 0 0,D.p 4 0 0] LoopState.ready PE.non]))))) (M.pure (some 1,(ls [] [Blk.arr true 110 1 [dSt p (iv w)],Blk.arr true 108 1 [D.p 0 0 0],b1 3 (ik (1:Int)),Blk.arr true 151 1 [D.fn (Fn.func 97) [] [D.ep (D.agg [iv c.1,iv c.2]) 0]],b1 4 (bv b),b1 27 (dRp r),Blk.mk,Blk.rc 72 [D.p 1 0 0,D.p 2 0 0,D.p 3 0 0,D.p 4 0 0] LoopState.ready PE.non])))) (M.pure (some 1,(ls [] [Blk.arr true 110 1 [dSt p (iv w)],Blk.arr true 108 1 [D.p 0 0 0],b1 3 (ik (1:Int)),Blk.arr true 151 1 [D.fn (Fn.func 97) [] [D.ep (D.agg [iv c.1,iv c.2]) 0]],b1 4 (bv b),b1 27 (dRp r),Blk.mk,Blk.rc 72 [D.p 1 0 0,D.p 2 0 0,D.p 3 0 0,D.p 4 0 0] LoopState.ready PE.non]))))) (M.pure (some 0,(ls [] [Blk.arr true 110 1 [dSt p (iv w)],Blk.arr true 108 1 [D.p 0 0 0],b1 3 (ik (1:Int)),Blk.arr true 151 1 [D.fn (Fn.func 97) [] [D.ep (D.agg [iv c.1,iv c.2]) 0]],b1 4 (bv b),b1 27 (dRp r),Blk.mk,Blk.rc 72 [D.p 1 0 0,D.p 2 0 0,D.p 3 0 0,D.p 4 0 0] LoopState.ready PE.non])))):=by kernel_rfl
theorem t_sy198(p:Pq)(w:Int)(l:Le):callRB (cSyn 1 98 ckLe) (lSyn 98) 72 [ik 1,fLe l] 0 1 110 (dSt p (iv w))=(M.loop (26,0) (ls [D.y 7,D.p 5 0 0,sl 64 (List.map dLe (Pq.r1 p).2),sl 66 (List.map dCa (Pq.r1 p).3),sl 4 (List.map bv (Pq.r1 p).4),iv (nI (List.length (List.map bv (Pq.r1 p).4))),iv (0:Int)] [Blk.arr true 110 1 [dSt p (iv w)],Blk.arr true 108 1 [D.p 0 0 0],b1 3 (ik (1:Int)),Blk.arr true 151 1 [D.fn (Fn.func 98) [] [D.ep (D.agg [iv l.1,iv l.2,iv l.3]) 0]],b1 4 (bv false),Blk.arr true 27 1 [D.agg [iv (Pq.r1 p).1,sl 64 (List.map dLe (Pq.r1 p).2),sl 66 (List.map dCa (Pq.r1 p).3),sl 4 (List.map bv (Pq.r1 p).4)]],Blk.mk,Blk.rc 72 [D.p 1 0 0,D.p 2 0 0,D.p 3 0 0,D.p 4 0 0] LoopState.ready PE.non]) (fun L0=>M.pure (Rs.ret (bk false),Blk.arr true 110 1 [D.agg [iv (D.int (D.cell (vb L0 0) 0)),sl 64 (D.items (D.cell (vb L0 0) 1)),sl 66 (D.items (D.cell (vb L0 0) 2)),sl 4 (D.items (D.cell (vb L0 0) 3)),iv (D.int (D.cell (vb L0 0) 4)),sl 64 (D.items (D.cell (vb L0 0) 5)),sl 66 (D.items (D.cell (vb L0 0) 6)),sl 4 (D.items (D.cell (vb L0 0) 7)),iv (D.int (D.cell (vb L0 0) 8)),iv (D.int (D.cell (vb L0 0) 9)),sl 64 (D.items (D.cell (vb L0 0) 10)),sl 66 (D.items (D.cell (vb L0 0) 11)),sl 66 (D.items (D.cell (vb L0 0) 12)),iv (D.int (D.cell (vb L0 0) 13))]])) (fun L0=>M.pure (Rs.ret (bk false),Blk.arr true 110 1 [D.agg [iv (D.int (D.cell (vb L0 0) 0)),sl 64 (D.items (D.cell (vb L0 0) 1)),sl 66 (D.items (D.cell (vb L0 0) 2)),sl 4 (D.items (D.cell (vb L0 0) 3)),iv (D.int (D.cell (vb L0 0) 4)),sl 64 (D.items (D.cell (vb L0 0) 5)),sl 66 (D.items (D.cell (vb L0 0) 6)),sl 4 (D.items (D.cell (vb L0 0) 7)),iv (D.int (D.cell (vb L0 0) 8)),iv (D.int (D.cell (vb L0 0) 9)),sl 64 (D.items (D.cell (vb L0 0) 10)),sl 66 (D.items (D.cell (vb L0 0) 11)),sl 66 (D.items (D.cell (vb L0 0) 12)),iv (D.int (D.cell (vb L0 0) 13))]])) fun L0=>M.pure (Rs.ret (bv (D.bool (vb L0 4))),Blk.arr true 110 1 [D.agg [iv (D.int (D.cell (vb L0 0) 0)),sl 64 (D.items (D.cell (vb L0 0) 1)),sl 66 (D.items (D.cell (vb L0 0) 2)),sl 4 (D.items (D.cell (vb L0 0) 3)),iv (D.int (D.cell (vb L0 0) 4)),sl 64 (D.items (D.cell (vb L0 0) 5)),sl 66 (D.items (D.cell (vb L0 0) 6)),sl 4 (D.items (D.cell (vb L0 0) 7)),iv (D.int (D.cell (vb L0 0) 8)),iv (D.int (D.cell (vb L0 0) 9)),sl 64 (D.items (D.cell (vb L0 0) 10)),sl 66 (D.items (D.cell (vb L0 0) 11)),sl 66 (D.items (D.cell (vb L0 0) 12)),iv (D.int (D.cell (vb L0 0) 13))]])):=by kernel_rfl
theorem rd_sy198(p:Pq)(w:Int)(l:Le)(b:Bool)(r:Rp)(le:List Le)(ca:List Ca)(od:List D)(n i:Int):eSyn 1 98 ckLe (26,0) ⟨[.y 7,.p 5 0 0,sl 64 (le.map dLe),sl 66 (ca.map dCa),sl 4 od,iv n,iv i],[.arr true 110 1 [dSt p (iv w)],.arr true 108 1 [.p 0 0 0],.arr true 3 1 [ik 1],.arr true 151 1 [fLe l],.arr true 4 1 [bv b],.arr true 27 1 [dRp r],.mk,.rc 72 [.p 1 0 0,.p 2 0 0,.p 3 0 0,.p 4 0 0] .ready .non],[]⟩=(M.br (decide (i<n)) (M.get od i fun d0=>M.br (D.bool d0) (M.br (decide (nI (List.length (List.map dLe le))>(0:Int))) (M.get (List.map dLe le) (0:Int) fun d1=>M.need (decide ((0:Int)≤(1:Int)∧(1:Int)≤nI (List.length (List.map dLe le))∧nI (List.length (List.map dLe le))≤nI (List.length (List.map dLe le)))) (M.br (decide (i<p.4)) (M.br (D.bool d0) (M.br (decide (D.int (D.cell d1 0)=l.1) && (decide (D.int (D.cell d1 1)=l.2) && (decide (D.int (D.cell d1 2)=l.3) && true))) (M.pure (some 2,(ls [] [Blk.arr true 110 1 [dSt p (iv w)],Blk.arr true 108 1 [D.p 0 0 0],b1 3 (ik (1:Int)),Blk.arr true 151 1 [D.fn (Fn.func 98) [] [D.ep (D.agg [iv l.1,iv l.2,iv l.3]) 0]],b1 4 (bv true),b1 27 (dRp r),Blk.mk,Blk.rc 72 [D.p 1 0 0,D.p 2 0 0,D.p 3 0 0,D.p 4 0 0] LoopState.done PE.ret]))) (M.pure (none,(ls [D.y 7,D.p 5 0 0,sl 64 (List.drop 1 (List.map dLe le)),sl 66 (List.map dCa ca),sl 4 od,iv n,iv (w64 (i+(1:Int)))] [Blk.arr true 110 1 [dSt p (iv w)],Blk.arr true 108 1 [D.p 0 0 0],b1 3 (ik (1:Int)),Blk.arr true 151 1 [D.fn (Fn.func 98) [] [D.ep (D.agg [iv l.1,iv l.2,iv l.3]) 0]],b1 4 (bv b),b1 27 (dRp r),Blk.mk,Blk.rc 72 [D.p 1 0 0,D.p 2 0 0,D.p 3 0 0,D.p 4 0 0] LoopState.ready PE.non])))) (M.pure (none,(ls [D.y 7,D.p 5 0 0,sl 64 (List.drop 1 (List.map dLe le)),sl 66 (List.map dCa ca),sl 4 od,iv n,iv (w64 (i+(1:Int)))] [Blk.arr true 110 1 [dSt p (iv w)],Blk.arr true 108 1 [D.p 0 0 0],b1 3 (ik (1:Int)),Blk.arr true 151 1 [D.fn (Fn.func 98) [] [D.ep (D.agg [iv l.1,iv l.2,iv l.3]) 0]],b1 4 (bv b),b1 27 (dRp r),Blk.mk,Blk.rc 72 [D.p 1 0 0,D.p 2 0 0,D.p 3 0 0,D.p 4 0 0] LoopState.ready PE.non])))) (M.pure (none,(ls [D.y 7,D.p 5 0 0,sl 64 (List.drop 1 (List.map dLe le)),sl 66 (List.map dCa ca),sl 4 od,iv n,iv (w64 (i+(1:Int)))] [Blk.arr true 110 1 [dSt p (iv w)],Blk.arr true 108 1 [D.p 0 0 0],b1 3 (ik (1:Int)),Blk.arr true 151 1 [D.fn (Fn.func 98) [] [D.ep (D.agg [iv l.1,iv l.2,iv l.3]) 0]],b1 4 (bv b),b1 27 (dRp r),Blk.mk,Blk.rc 72 [D.p 1 0 0,D.p 2 0 0,D.p 3 0 0,D.p 4 0 0] LoopState.ready PE.non]))))) (M.br (!D.bool d0) (M.br (decide (nI (List.length (List.map dCa ca))>(0:Int))) (M.get (List.map dCa ca) (0:Int) fun d1=>M.need (decide ((0:Int)≤(1:Int)∧(1:Int)≤nI (List.length (List.map dCa ca))∧nI (List.length (List.map dCa ca))≤nI (List.length (List.map dCa ca)))) (M.br (decide (i<p.4)) (M.br (D.bool d0) (M.br (decide ((0:Int)=l.1) && (decide ((0:Int)=l.2) && (decide ((0:Int)=l.3) && true))) (M.pure (some 2,(ls [] [Blk.arr true 110 1 [dSt p (iv w)],Blk.arr true 108 1 [D.p 0 0 0],b1 3 (ik (1:Int)),Blk.arr true 151 1 [D.fn (Fn.func 98) [] [D.ep (D.agg [iv l.1,iv l.2,iv l.3]) 0]],b1 4 (bv true),b1 27 (dRp r),Blk.mk,Blk.rc 72 [D.p 1 0 0,D.p 2 0 0,D.p 3 0 0,D.p 4 0 0] LoopState.done PE.ret]))) (M.pure (none,(ls [D.y 7,D.p 5 0 0,sl 64 (List.map dLe le),sl 66 (List.drop 1 (List.map dCa ca)),sl 4 od,iv n,iv (w64 (i+(1:Int)))] [Blk.arr true 110 1 [dSt p (iv w)],Blk.arr true 108 1 [D.p 0 0 0],b1 3 (ik (1:Int)),Blk.arr true 151 1 [D.fn (Fn.func 98) [] [D.ep (D.agg [iv l.1,iv l.2,iv l.3]) 0]],b1 4 (bv b),b1 27 (dRp r),Blk.mk,Blk.rc 72 [D.p 1 0 0,D.p 2 0 0,D.p 3 0 0,D.p 4 0 0] LoopState.ready PE.non])))) (M.pure (none,(ls [D.y 7,D.p 5 0 0,sl 64 (List.map dLe le),sl 66 (List.drop 1 (List.map dCa ca)),sl 4 od,iv n,iv (w64 (i+(1:Int)))] [Blk.arr true 110 1 [dSt p (iv w)],Blk.arr true 108 1 [D.p 0 0 0],b1 3 (ik (1:Int)),Blk.arr true 151 1 [D.fn (Fn.func 98) [] [D.ep (D.agg [iv l.1,iv l.2,iv l.3]) 0]],b1 4 (bv b),b1 27 (dRp r),Blk.mk,Blk.rc 72 [D.p 1 0 0,D.p 2 0 0,D.p 3 0 0,D.p 4 0 0] LoopState.ready PE.non])))) (M.pure (none,(ls [D.y 7,D.p 5 0 0,sl 64 (List.map dLe le),sl 66 (List.drop 1 (List.map dCa ca)),sl 4 od,iv n,iv (w64 (i+(1:Int)))] [Blk.arr true 110 1 [dSt p (iv w)],Blk.arr true 108 1 [D.p 0 0 0],b1 3 (ik (1:Int)),Blk.arr true 151 1 [D.fn (Fn.func 98) [] [D.ep (D.agg [iv l.1,iv l.2,iv l.3]) 0]],b1 4 (bv b),b1 27 (dRp r),Blk.mk,Blk.rc 72 [D.p 1 0 0,D.p 2 0 0,D.p 3 0 0,D.p 4 0 0] LoopState.ready PE.non]))))) (M.pure (some 1,(ls [] [Blk.arr true 110 1 [dSt p (iv w)],Blk.arr true 108 1 [D.p 0 0 0],b1 3 (ik (1:Int)),Blk.arr true 151 1 [D.fn (Fn.func 98) [] [D.ep (D.agg [iv l.1,iv l.2,iv l.3]) 0]],b1 4 (bv b),b1 27 (dRp r),Blk.mk,Blk.rc 72 [D.p 1 0 0,D.p 2 0 0,D.p 3 0 0,D.p 4 0 0] LoopState.ready PE.non])))) (M.pure (some 1,(ls [] [Blk.arr true 110 1 [dSt p (iv w)],Blk.arr true 108 1 [D.p 0 0 0],b1 3 (ik (1:Int)),Blk.arr true 151 1 [D.fn (Fn.func 98) [] [D.ep (D.agg [iv l.1,iv l.2,iv l.3]) 0]],b1 4 (bv b),b1 27 (dRp r),Blk.mk,Blk.rc 72 [D.p 1 0 0,D.p 2 0 0,D.p 3 0 0,D.p 4 0 0] LoopState.ready PE.non]))))) (M.br (!D.bool d0) (M.br (decide (nI (List.length (List.map dCa ca))>(0:Int))) (M.get (List.map dCa ca) (0:Int) fun d1=>M.need (decide ((0:Int)≤(1:Int)∧(1:Int)≤nI (List.length (List.map dCa ca))∧nI (List.length (List.map dCa ca))≤nI (List.length (List.map dCa ca)))) (M.br (decide (i<p.4)) (M.br (D.bool d0) (M.br (decide ((0:Int)=l.1) && (decide ((0:Int)=l.2) && (decide ((0:Int)=l.3) && true))) (M.pure (some 2,(ls [] [Blk.arr true 110 1 [dSt p (iv w)],Blk.arr true 108 1 [D.p 0 0 0],b1 3 (ik (1:Int)),Blk.arr true 151 1 [D.fn (Fn.func 98) [] [D.ep (D.agg [iv l.1,iv l.2,iv l.3]) 0]],b1 4 (bv true),b1 27 (dRp r),Blk.mk,Blk.rc 72 [D.p 1 0 0,D.p 2 0 0,D.p 3 0 0,D.p 4 0 0] LoopState.done PE.ret]))) (M.pure (none,(ls [D.y 7,D.p 5 0 0,sl 64 (List.map dLe le),sl 66 (List.drop 1 (List.map dCa ca)),sl 4 od,iv n,iv (w64 (i+(1:Int)))] [Blk.arr true 110 1 [dSt p (iv w)],Blk.arr true 108 1 [D.p 0 0 0],b1 3 (ik (1:Int)),Blk.arr true 151 1 [D.fn (Fn.func 98) [] [D.ep (D.agg [iv l.1,iv l.2,iv l.3]) 0]],b1 4 (bv b),b1 27 (dRp r),Blk.mk,Blk.rc 72 [D.p 1 0 0,D.p 2 0 0,D.p 3 0 0,D.p 4 0 0] LoopState.ready PE.non])))) (M.pure (none,(ls [D.y 7,D.p 5 0 0,sl 64 (List.map dLe le),sl 66 (List.drop 1 (List.map dCa ca)),sl 4 od,iv n,iv (w64 (i+(1:Int)))] [Blk.arr true 110 1 [dSt p (iv w)],Blk.arr true 108 1 [D.p 0 0 0],b1 3 (ik (1:Int)),Blk.arr true 151 1 [D.fn (Fn.func 98) [] [D.ep (D.agg [iv l.1,iv l.2,iv l.3]) 0]],b1 4 (bv b),b1 27 (dRp r),Blk.mk,Blk.rc 72 [D.p 1 0 0,D.p 2 0 0,D.p 3 0 0,D.p 4 0 0] LoopState.ready PE.non])))) (M.pure (none,(ls [D.y 7,D.p 5 0 0,sl 64 (List.map dLe le),sl 66 (List.drop 1 (List.map dCa ca)),sl 4 od,iv n,iv (w64 (i+(1:Int)))] [Blk.arr true 110 1 [dSt p (iv w)],Blk.arr true 108 1 [D.p 0 0 0],b1 3 (ik (1:Int)),Blk.arr true 151 1 [D.fn (Fn.func 98) [] [D.ep (D.agg [iv l.1,iv l.2,iv l.3]) 0]],b1 4 (bv b),b1 27 (dRp r),Blk.mk,Blk.rc 72 [D.p 1 0 0,D.p 2 0 0,D.p 3 0 0,D.p 4 0 0] LoopState.ready PE.non]))))) (M.pure (some 1,(ls [] [Blk.arr true 110 1 [dSt p (iv w)],Blk.arr true 108 1 [D.p 0 0 0],b1 3 (ik (1:Int)),Blk.arr true 151 1 [D.fn (Fn.func 98) [] [D.ep (D.agg [iv l.1,iv l.2,iv l.3]) 0]],b1 4 (bv b),b1 27 (dRp r),Blk.mk,Blk.rc 72 [D.p 1 0 0,D.p 2 0 0,D.p 3 0 0,D.p 4 0 0] LoopState.ready PE.non])))) (M.pure (some 1,(ls [] [Blk.arr true 110 1 [dSt p (iv w)],Blk.arr true 108 1 [D.p 0 0 0],b1 3 (ik (1:Int)),Blk.arr true 151 1 [D.fn (Fn.func 98) [] [D.ep (D.agg [iv l.1,iv l.2,iv l.3]) 0]],b1 4 (bv b),b1 27 (dRp r),Blk.mk,Blk.rc 72 [D.p 1 0 0,D.p 2 0 0,D.p 3 0 0,D.p 4 0 0] LoopState.ready PE.non]))))) (M.pure (some 0,(ls [] [Blk.arr true 110 1 [dSt p (iv w)],Blk.arr true 108 1 [D.p 0 0 0],b1 3 (ik (1:Int)),Blk.arr true 151 1 [D.fn (Fn.func 98) [] [D.ep (D.agg [iv l.1,iv l.2,iv l.3]) 0]],b1 4 (bv b),b1 27 (dRp r),Blk.mk,Blk.rc 72 [D.p 1 0 0,D.p 2 0 0,D.p 3 0 0,D.p 4 0 0] LoopState.ready PE.non])))):=by kernel_rfl
theorem vv_st(p:Pq)(w:Int):(dSt p (iv w)).vv=dSt p (iv w):=by
 unfold dSt
 simp only [D.vv,vvL,vvL_map,vv_les,vv_cas,vv_ods]
def hitC(c:Ca)(x:En):Bool:=!x.is && decide (x.ca=c)
def hitL(l:Le)(x:En):Bool:=x.is && decide (x.le=l)
def synB(E:List En)(sy:Int)(hit:En→Bool):Bool:=(E.take sy.toNat).any hit
theorem syn_t{E:List En}{sy:Int}{hit:En→Bool}(h:∃ (k:Nat)(x:En),E[k]?=some x∧(k:Int)<sy∧hit x=true):synB E sy hit=true:=by
 obtain⟨k,x,h1,h2,h3⟩:=h
 refine List.any_eq_true.2 ⟨x,List.mem_of_getElem? (i:=k) ?_,h3⟩
 rw [List.getElem?_take,if_pos (by omega)];exact h1
theorem syn_f{E:List En}{sy:Int}{hit:En→Bool}(h:∀ (k:Nat)(x:En),E[k]?=some x→(k:Int)<sy→hit x=false):synB E sy hit=false:=by
 refine List.any_eq_false.2 fun x hx=>?_
 obtain⟨k,hk⟩:=List.mem_iff_getElem?.1 hx
 rw [List.getElem?_take]at hk
 split at hk
 ·rw [h k x hk (by omega)];exact fun h=>nomatch h
 cases hk
abbrev bSy (p:Pq) (w u:Int) (f:D) (b:Bool) (r:Rp) (st:LoopState) (pe:PE):List Blk:=[.arr true 110 1 [dSt p (iv w)],.arr true 108 1 [.p 0 0 0],.arr true 3 1 [ik u],.arr true 151 1 [f],.arr true 4 1 [bv b],.arr true 27 1 [dRp r],.mk,.rc 72 [.p 1 0 0,.p 2 0 0,.p 3 0 0,.p 4 0 0] st pe]
abbrev stSy (p:Pq) (w u:Int) (f:D) (r:Rp) (E:List En) (i:Nat):LSt:=⟨[.y 7,.p 5 0 0,sl 64 ((leE (E.drop i)).map dLe),sl 66 ((caE (E.drop i)).map dCa),sl 4 ((odE E).map bv),iv E.length,iv ((i:Nat):Int)],bSy p w u f false r .ready .non,[]⟩
def SyR(p:Pq)(w u:Int)(f:D)(r:Rp)(E:List En)(sy:Int)(hit:En→Bool)(j:Nat)(L:LSt):Prop:=(j=0∧synB E sy hit=false∧L=⟨[],bSy p w u f false r .ready .non,[]⟩)∨(j=2∧synB E sy hit=true∧L=⟨[],bSy p w u f true r .done .ret,[]⟩)
def SyI(E:List En)(sy:Int)(hit:En→Bool)(i:Nat):Prop:=∀ (k:Nat) (x:En),E[k]?=some x→(k:Int)<sy→k<i→hit x=false
theorem SyI.next{E:List En}{sy:Int}{hit:En→Bool}{i:Nat}{x:En}(h:SyI E sy hit i)(hx:E[i]?=some x)(hn:(i:Int)<sy→hit x=false):SyI E sy hit (i+1):=fun k y h1 h2 h3=>by
 by_cases hk:k=i
 ·subst hk
  rw [hx]at h1;obtain rfl:=Option.some.inj h1
  exact hn h2
 exact h k y h1 h2 (by omega)
theorem dec_ca{x c:Ca}:(decide (x.bar=c.bar) && (decide (x.pr=c.pr) && true))=decide (x=c):=by
 cases x;cases c;simp
theorem dec_le{x c:Le}:(decide (x.no=c.no) && (decide (x.ho=c.ho) && (decide (x.un=c.un) && true)))=decide (x=c):=by
 cases x;cases c;simp
theorem named_syn(w:Int)(g:FuncId)(cs:List CK)(hg:plainB g=true):NamedT (eSyn w g cs) PP (cSyn w g cs) (lSyn g) yh0 :=
 named_range (c0:=lcode 72 0) (by kernel_rfl) (fun c s=>rfl) (by kernel_rfl) (named_plain (by kernel_rfl) (named_none (by kernel_rfl) (by kernel_rfl) (fun c s=>rfl) (named_plain hg (NamedT.nil (P:=PP)))))
  (named_plain (by kernel_rfl) (named_loop (id0:=(26,0)) (by kernel_rfl) (by kernel_rfl) (by kernel_rfl) (fun s=>by kernel_rfl) (fun L=>rfl) (named_plain hg (NamedT.nil (P:=PP)))))
theorem syn_den(w:Int)(f:D):∀ (j:Nat) d e,(D.p 0 0 0::[iv w,f])[j]?=some d→(D.p 0 0 0::[ik w,f])[j]?=some e→∀ {I:Gh}{α:Al}{x:Value},Den (tyOf PP) I α d x→Den (tyOf PP) I α e x:=fun j d e h1 h2 {I α x} hd=>by
 match j,h1,h2 with
 | 0,h1,h2=>cases h1;cases h2;exact hd
 | 1,h1,h2=>cases h1;cases h2;exact den_k hd
 | 2,h1,h2=>cases h1;cases h2;exact hd
 | j+3,h1,h2=>simp at h1
theorem sy_lp097{Γ:Cn}(p:Pq)(w:Int)(c:Ca)(r:Rp)(E:List En)(hsm:E.length<100000):∃ j L,Lp (eSyn 0 97 ckCa) Γ (26,0) (stSy p w 0 (fCa c) r E 0) j L∧SyR p w 0 (fCa c) r E p.s0 (hitC c) j L:=by
 refine lp_up (σ:=Unit) (fun i _=>stSy p w 0 (fCa c) r E i) E.length (fun i _=>SyI E p.s0 (hitC c) i) _ (fun i _ hi hI=>?_) (fun _ hI=>?_) (s:=()) (fun _ _ _ _ h=>absurd h (by omega))
 ·have hx:=List.getElem?_eq_getElem hi
  rw [rd_sy097]
  generalize E[i]=x at hx
  have hod:=od_get hx
  rw [drop_one hx]
  cases hb:x.is with
  | true =>
   obtain⟨q1,q2⟩:=leE_cons (E:=E.drop (i+1)) hb
   rw [q1,q2]
   rw [hb]at hod
   exact ent_t (by omega) (by omega) hod ⟨fun _=>⟨(fun h=>nomatch h),fun _=>.inl ⟨(),(by rw [w64_id (by omega) (by omega)];rfl),hI.next hx fun _=>(by unfold hitC;rw [hb];rfl)⟩⟩,fun h1=>.inl ⟨(),(by rw [w64_id (by omega) (by omega)];rfl),hI.next hx fun h=>absurd h (of_decide_eq_false h1)⟩⟩
  | false =>
   obtain⟨q1,q2⟩:=caE_cons (E:=E.drop (i+1)) hb
   rw [q1,q2]
   rw [hb]at hod
   exact ent_f (by omega) (by omega) hod ⟨fun h1=>⟨fun _=>⟨fun h2=>.inr ⟨2,_,rfl,.inr ⟨rfl,syn_t ⟨i,x,hx,of_decide_eq_true h1,(by unfold hitC;rw [hb,← dec_ca];exact h2)⟩,rfl⟩⟩,fun h2=>.inl ⟨(),(by rw [w64_id (by omega) (by omega)];rfl),hI.next hx fun _=>(by unfold hitC;rw [hb,← dec_ca];exact h2)⟩⟩,fun h=>nomatch h⟩,fun h1=>.inl ⟨(),(by rw [w64_id (by omega) (by omega)];rfl),hI.next hx fun h=>absurd h (of_decide_eq_false h1)⟩⟩
 rw [rd_sy097]
 exact ent_e (by omega) ⟨0,_,rfl,.inl ⟨rfl,syn_f fun k x h1 h2=>hI k x h1 h2 (List.getElem?_eq_some_iff.1 h1).1,rfl⟩⟩
theorem sy_ok097(p:Pq)(w:Int)(c:Ca)(s:Int)(E:List En)(hE:p.r0=ofE s E)(hsm:E.length<100000):CallSd PP 72 (.p 0 0 0::[iv 0,fCa c]) (hpOf 1 [0] [.arr true 110 1 [dSt p (iv w)]]) (.ret (bv (synB E p.s0 (hitC c)))) (hpOf 1 [0] [.arr true 110 1 [dSt p (iv w)]]):=by
 refine CallSd.sub (a:=.p 0 0 0::[ik 0,fCa c]) rfl (syn_den 0 _) (con_ofB (E:=eSyn 0 97 ckCa) (Γ:=consΓ (P:=PP) []) (C:=cSyn 0 97 ckCa) (l:=lSyn 97) kSt (.one kB) (cons_ok rfl) (named_syn 0 97 ckCa (by kernel_rfl)) (by decide) rfl rfl (to_wp ?_))
 rw [t_sy097]
 obtain⟨j,L,h1,h2⟩:=sy_lp097 (Γ:=consΓ (P:=PP) []) p w c p.r0 E hsm
 have e:stSy p w 0 (fCa c) p.r0 E 0=⟨[.y 7,.p 5 0 0,sl 64 (p.r0.le.map dLe),sl 66 (p.r0.ca.map dCa),sl 4 (p.r0.od.map bv),iv (nI (p.r0.od.map bv).length),iv 0],bSy p w 0 (fCa c) false p.r0 .ready .non,[]⟩:=by
  have h3:nI (p.r0.od.map bv).length=(E.length:Int):=by
   rw [List.length_map,hE]
   show(((odE E).length:Nat):Int)=_
   rw [odE_len]
  rw [h3,hE];rfl
 rw [e]at h1
 rcases h2 with ⟨rfl,h2,rfl⟩|⟨rfl,h2,rfl⟩
 ·exact .inl ⟨_,h1,_,_,_,_,rfl,rfl,(by rw [h2];rfl),rfl,vv_st p w⟩
 exact .inr (.inr ⟨_,h1,_,_,_,_,rfl,rfl,(by rw [h2];rfl),rfl,vv_st p w⟩)
theorem sy_lp098{Γ:Cn}(p:Pq)(w:Int)(l:Le)(r:Rp)(E:List En)(hsm:E.length<100000):∃ j L,Lp (eSyn 0 98 ckLe) Γ (26,0) (stSy p w 0 (fLe l) r E 0) j L∧SyR p w 0 (fLe l) r E p.s0 (hitL l) j L:=by
 refine lp_up (σ:=Unit) (fun i _=>stSy p w 0 (fLe l) r E i) E.length (fun i _=>SyI E p.s0 (hitL l) i) _ (fun i _ hi hI=>?_) (fun _ hI=>?_) (s:=()) (fun _ _ _ _ h=>absurd h (by omega))
 ·have hx:=List.getElem?_eq_getElem hi
  rw [rd_sy098]
  generalize E[i]=x at hx
  have hod:=od_get hx
  rw [drop_one hx]
  cases hb:x.is with
  | true =>
   obtain⟨q1,q2⟩:=leE_cons (E:=E.drop (i+1)) hb
   rw [q1,q2]
   rw [hb]at hod
   exact ent_t (by omega) (by omega) hod ⟨fun h1=>⟨fun _=>⟨fun h2=>.inr ⟨2,_,rfl,.inr ⟨rfl,syn_t ⟨i,x,hx,of_decide_eq_true h1,(by unfold hitL;rw [hb,← dec_le];exact h2)⟩,rfl⟩⟩,fun h2=>.inl ⟨(),(by rw [w64_id (by omega) (by omega)];rfl),hI.next hx fun _=>(by unfold hitL;rw [hb,← dec_le];exact h2)⟩⟩,fun h=>nomatch h⟩,fun h1=>.inl ⟨(),(by rw [w64_id (by omega) (by omega)];rfl),hI.next hx fun h=>absurd h (of_decide_eq_false h1)⟩⟩
  | false =>
   obtain⟨q1,q2⟩:=caE_cons (E:=E.drop (i+1)) hb
   rw [q1,q2]
   rw [hb]at hod
   exact ent_f (by omega) (by omega) hod ⟨fun _=>⟨(fun h=>nomatch h),fun _=>.inl ⟨(),(by rw [w64_id (by omega) (by omega)];rfl),hI.next hx fun _=>(by unfold hitL;rw [hb];rfl)⟩⟩,fun h1=>.inl ⟨(),(by rw [w64_id (by omega) (by omega)];rfl),hI.next hx fun h=>absurd h (of_decide_eq_false h1)⟩⟩
 rw [rd_sy098]
 exact ent_e (by omega) ⟨0,_,rfl,.inl ⟨rfl,syn_f fun k x h1 h2=>hI k x h1 h2 (List.getElem?_eq_some_iff.1 h1).1,rfl⟩⟩
theorem sy_ok098(p:Pq)(w:Int)(l:Le)(s:Int)(E:List En)(hE:p.r0=ofE s E)(hsm:E.length<100000):CallSd PP 72 (.p 0 0 0::[iv 0,fLe l]) (hpOf 1 [0] [.arr true 110 1 [dSt p (iv w)]]) (.ret (bv (synB E p.s0 (hitL l)))) (hpOf 1 [0] [.arr true 110 1 [dSt p (iv w)]]):=by
 refine CallSd.sub (a:=.p 0 0 0::[ik 0,fLe l]) rfl (syn_den 0 _) (con_ofB (E:=eSyn 0 98 ckLe) (Γ:=consΓ (P:=PP) []) (C:=cSyn 0 98 ckLe) (l:=lSyn 98) kSt (.one kB) (cons_ok rfl) (named_syn 0 98 ckLe (by kernel_rfl)) (by decide) rfl rfl (to_wp ?_))
 rw [t_sy098]
 obtain⟨j,L,h1,h2⟩:=sy_lp098 (Γ:=consΓ (P:=PP) []) p w l p.r0 E hsm
 have e:stSy p w 0 (fLe l) p.r0 E 0=⟨[.y 7,.p 5 0 0,sl 64 (p.r0.le.map dLe),sl 66 (p.r0.ca.map dCa),sl 4 (p.r0.od.map bv),iv (nI (p.r0.od.map bv).length),iv 0],bSy p w 0 (fLe l) false p.r0 .ready .non,[]⟩:=by
  have h3:nI (p.r0.od.map bv).length=(E.length:Int):=by
   rw [List.length_map,hE]
   show(((odE E).length:Nat):Int)=_
   rw [odE_len]
  rw [h3,hE];rfl
 rw [e]at h1
 rcases h2 with ⟨rfl,h2,rfl⟩|⟨rfl,h2,rfl⟩
 ·exact .inl ⟨_,h1,_,_,_,_,rfl,rfl,(by rw [h2];rfl),rfl,vv_st p w⟩
 exact .inr (.inr ⟨_,h1,_,_,_,_,rfl,rfl,(by rw [h2];rfl),rfl,vv_st p w⟩)
theorem sy_lp197{Γ:Cn}(p:Pq)(w:Int)(c:Ca)(r:Rp)(E:List En)(hsm:E.length<100000):∃ j L,Lp (eSyn 1 97 ckCa) Γ (26,0) (stSy p w 1 (fCa c) r E 0) j L∧SyR p w 1 (fCa c) r E p.s1 (hitC c) j L:=by
 refine lp_up (σ:=Unit) (fun i _=>stSy p w 1 (fCa c) r E i) E.length (fun i _=>SyI E p.s1 (hitC c) i) _ (fun i _ hi hI=>?_) (fun _ hI=>?_) (s:=()) (fun _ _ _ _ h=>absurd h (by omega))
 ·have hx:=List.getElem?_eq_getElem hi
  rw [rd_sy197]
  generalize E[i]=x at hx
  have hod:=od_get hx
  rw [drop_one hx]
  cases hb:x.is with
  | true =>
   obtain⟨q1,q2⟩:=leE_cons (E:=E.drop (i+1)) hb
   rw [q1,q2]
   rw [hb]at hod
   exact ent_t (by omega) (by omega) hod ⟨fun _=>⟨(fun h=>nomatch h),fun _=>.inl ⟨(),(by rw [w64_id (by omega) (by omega)];rfl),hI.next hx fun _=>(by unfold hitC;rw [hb];rfl)⟩⟩,fun h1=>.inl ⟨(),(by rw [w64_id (by omega) (by omega)];rfl),hI.next hx fun h=>absurd h (of_decide_eq_false h1)⟩⟩
  | false =>
   obtain⟨q1,q2⟩:=caE_cons (E:=E.drop (i+1)) hb
   rw [q1,q2]
   rw [hb]at hod
   exact ent_f (by omega) (by omega) hod ⟨fun h1=>⟨fun _=>⟨fun h2=>.inr ⟨2,_,rfl,.inr ⟨rfl,syn_t ⟨i,x,hx,of_decide_eq_true h1,(by unfold hitC;rw [hb,← dec_ca];exact h2)⟩,rfl⟩⟩,fun h2=>.inl ⟨(),(by rw [w64_id (by omega) (by omega)];rfl),hI.next hx fun _=>(by unfold hitC;rw [hb,← dec_ca];exact h2)⟩⟩,fun h=>nomatch h⟩,fun h1=>.inl ⟨(),(by rw [w64_id (by omega) (by omega)];rfl),hI.next hx fun h=>absurd h (of_decide_eq_false h1)⟩⟩
 rw [rd_sy197]
 exact ent_e (by omega) ⟨0,_,rfl,.inl ⟨rfl,syn_f fun k x h1 h2=>hI k x h1 h2 (List.getElem?_eq_some_iff.1 h1).1,rfl⟩⟩
theorem sy_ok197(p:Pq)(w:Int)(c:Ca)(s:Int)(E:List En)(hE:p.r1=ofE s E)(hsm:E.length<100000):CallSd PP 72 (.p 0 0 0::[iv 1,fCa c]) (hpOf 1 [0] [.arr true 110 1 [dSt p (iv w)]]) (.ret (bv (synB E p.s1 (hitC c)))) (hpOf 1 [0] [.arr true 110 1 [dSt p (iv w)]]):=by
 refine CallSd.sub (a:=.p 0 0 0::[ik 1,fCa c]) rfl (syn_den 1 _) (con_ofB (E:=eSyn 1 97 ckCa) (Γ:=consΓ (P:=PP) []) (C:=cSyn 1 97 ckCa) (l:=lSyn 97) kSt (.one kB) (cons_ok rfl) (named_syn 1 97 ckCa (by kernel_rfl)) (by decide) rfl rfl (to_wp ?_))
 rw [t_sy197]
 obtain⟨j,L,h1,h2⟩:=sy_lp197 (Γ:=consΓ (P:=PP) []) p w c p.r1 E hsm
 have e:stSy p w 1 (fCa c) p.r1 E 0=⟨[.y 7,.p 5 0 0,sl 64 (p.r1.le.map dLe),sl 66 (p.r1.ca.map dCa),sl 4 (p.r1.od.map bv),iv (nI (p.r1.od.map bv).length),iv 0],bSy p w 1 (fCa c) false p.r1 .ready .non,[]⟩:=by
  have h3:nI (p.r1.od.map bv).length=(E.length:Int):=by
   rw [List.length_map,hE]
   show(((odE E).length:Nat):Int)=_
   rw [odE_len]
  rw [h3,hE];rfl
 rw [e]at h1
 rcases h2 with ⟨rfl,h2,rfl⟩|⟨rfl,h2,rfl⟩
 ·exact .inl ⟨_,h1,_,_,_,_,rfl,rfl,(by rw [h2];rfl),rfl,vv_st p w⟩
 exact .inr (.inr ⟨_,h1,_,_,_,_,rfl,rfl,(by rw [h2];rfl),rfl,vv_st p w⟩)
theorem sy_lp198{Γ:Cn}(p:Pq)(w:Int)(l:Le)(r:Rp)(E:List En)(hsm:E.length<100000):∃ j L,Lp (eSyn 1 98 ckLe) Γ (26,0) (stSy p w 1 (fLe l) r E 0) j L∧SyR p w 1 (fLe l) r E p.s1 (hitL l) j L:=by
 refine lp_up (σ:=Unit) (fun i _=>stSy p w 1 (fLe l) r E i) E.length (fun i _=>SyI E p.s1 (hitL l) i) _ (fun i _ hi hI=>?_) (fun _ hI=>?_) (s:=()) (fun _ _ _ _ h=>absurd h (by omega))
 ·have hx:=List.getElem?_eq_getElem hi
  rw [rd_sy198]
  generalize E[i]=x at hx
  have hod:=od_get hx
  rw [drop_one hx]
  cases hb:x.is with
  | true =>
   obtain⟨q1,q2⟩:=leE_cons (E:=E.drop (i+1)) hb
   rw [q1,q2]
   rw [hb]at hod
   exact ent_t (by omega) (by omega) hod ⟨fun h1=>⟨fun _=>⟨fun h2=>.inr ⟨2,_,rfl,.inr ⟨rfl,syn_t ⟨i,x,hx,of_decide_eq_true h1,(by unfold hitL;rw [hb,← dec_le];exact h2)⟩,rfl⟩⟩,fun h2=>.inl ⟨(),(by rw [w64_id (by omega) (by omega)];rfl),hI.next hx fun _=>(by unfold hitL;rw [hb,← dec_le];exact h2)⟩⟩,fun h=>nomatch h⟩,fun h1=>.inl ⟨(),(by rw [w64_id (by omega) (by omega)];rfl),hI.next hx fun h=>absurd h (of_decide_eq_false h1)⟩⟩
  | false =>
   obtain⟨q1,q2⟩:=caE_cons (E:=E.drop (i+1)) hb
   rw [q1,q2]
   rw [hb]at hod
   exact ent_f (by omega) (by omega) hod ⟨fun _=>⟨(fun h=>nomatch h),fun _=>.inl ⟨(),(by rw [w64_id (by omega) (by omega)];rfl),hI.next hx fun _=>(by unfold hitL;rw [hb];rfl)⟩⟩,fun h1=>.inl ⟨(),(by rw [w64_id (by omega) (by omega)];rfl),hI.next hx fun h=>absurd h (of_decide_eq_false h1)⟩⟩
 rw [rd_sy198]
 exact ent_e (by omega) ⟨0,_,rfl,.inl ⟨rfl,syn_f fun k x h1 h2=>hI k x h1 h2 (List.getElem?_eq_some_iff.1 h1).1,rfl⟩⟩
theorem sy_ok198(p:Pq)(w:Int)(l:Le)(s:Int)(E:List En)(hE:p.r1=ofE s E)(hsm:E.length<100000):CallSd PP 72 (.p 0 0 0::[iv 1,fLe l]) (hpOf 1 [0] [.arr true 110 1 [dSt p (iv w)]]) (.ret (bv (synB E p.s1 (hitL l)))) (hpOf 1 [0] [.arr true 110 1 [dSt p (iv w)]]):=by
 refine CallSd.sub (a:=.p 0 0 0::[ik 1,fLe l]) rfl (syn_den 1 _) (con_ofB (E:=eSyn 1 98 ckLe) (Γ:=consΓ (P:=PP) []) (C:=cSyn 1 98 ckLe) (l:=lSyn 98) kSt (.one kB) (cons_ok rfl) (named_syn 1 98 ckLe (by kernel_rfl)) (by decide) rfl rfl (to_wp ?_))
 rw [t_sy198]
 obtain⟨j,L,h1,h2⟩:=sy_lp198 (Γ:=consΓ (P:=PP) []) p w l p.r1 E hsm
 have e:stSy p w 1 (fLe l) p.r1 E 0=⟨[.y 7,.p 5 0 0,sl 64 (p.r1.le.map dLe),sl 66 (p.r1.ca.map dCa),sl 4 (p.r1.od.map bv),iv (nI (p.r1.od.map bv).length),iv 0],bSy p w 1 (fLe l) false p.r1 .ready .non,[]⟩:=by
  have h3:nI (p.r1.od.map bv).length=(E.length:Int):=by
   rw [List.length_map,hE]
   show(((odE E).length:Nat):Int)=_
   rw [odE_len]
  rw [h3,hE];rfl
 rw [e]at h1
 rcases h2 with ⟨rfl,h2,rfl⟩|⟨rfl,h2,rfl⟩
 ·exact .inl ⟨_,h1,_,_,_,_,rfl,rfl,(by rw [h2];rfl),rfl,vv_st p w⟩
 exact .inr (.inr ⟨_,h1,_,_,_,_,rfl,rfl,(by rw [h2];rfl),rfl,vv_st p w⟩)
inductive Fh:D→(En→Bool)→Prop where
 | ca (c:Ca):Fh (fCa c) (hitC c)
 | le (l:Le):Fh (fLe l) (hitL l)
def Dk(p:Pq)(u:Int)(E:List En)(sy:Int):Prop:=E.length<100000∧((u=0∧p.r0=ofE 0 E∧sy=p.s0)∨(u=1∧p.r1=ofE 1 E∧sy=p.s1))
def SyRel(args:List D)(c d c':D):Prop:=∃ p w u E sy f hit,c=dSt p (iv w)∧c'=c∧Dk p u E sy∧Fh f hit∧args=[iv u,f]∧d=bv (synB E sy hit)
theorem sy_rel{args:List D}{c d c':D}(h:SyRel args c d c'):CallSd PP 72 (.p 0 0 0::args) (hpOf 1 [0] [.arr true 110 1 [c]]) (.ret (etaR (.one kB) d)) (hpOf 1 [0] [.arr true 110 1 [etaK0 kSt c']]):=by
 obtain⟨p,w,u,E,sy,f,hit,rfl,rfl,⟨hsm,hk⟩,hf,rfl,rfl⟩:=h
 rcases hk with ⟨rfl,hE,rfl⟩|⟨rfl,hE,rfl⟩<;>cases hf
 ·exact sy_ok097 p w _ 0 E hE hsm
 ·exact sy_ok098 p w _ 0 E hE hsm
 ·exact sy_ok197 p w _ 1 E hE hsm
 exact sy_ok198 p w _ 1 E hE hsm
def conSy:ConB PP:=⟨72,0,1,110,kSt,[kI,.one .o],.one kB,true,SyRel,fun _ _ _ _ h=>sy_rel h,by decide,fun _ _ _ _ _ ⟨_,_,_,_,_,_,_,_,h,_⟩=>h⟩
end Z
namespace Z
abbrev nS1:List (Nat×BK):=[(0,.each 110 1 [.el kSt])]
def gVs(i:Int):LCfg:=⟨87,8,8,⟨[(0,.fix (.p 0 0 0)),(4,.fix (ik i)),(42,.fix (ik i)),(51,.el (.one (.sl 66))),(52,sI),(53,sI)],nS1⟩,[(.exit 4,⟨[(0,.fix (.p 0 0 0)),(42,.fix (ik i))],nS1⟩)]⟩
def gVt:LCfg:=⟨87,8,8,⟨[(0,.fix (.p 0 0 0)),(69,.el (.one (.sl 64))),(70,sI),(71,sI)],nS1⟩,[(.exit 6,⟨[],nS1⟩)]⟩
def findV:FuncId→Nat→Find:=fun f tag c s=>if(f == 41 && fstReg c == 9)=true then(match s.ts.getD 4 .any with
 | .k (.int _ 0)=>some ((41,0),gVs 0)
 | _=>some ((41,1),gVs 1))else findT [⟨41,0,15,(41,2),gVt⟩] f tag c s
noncomputable def bSyB:Caller:=consB PP [⟨72,0,110,kSt,[kI,.one .o],.one kB,true⟩] (cons PP [⟨6,[kRp],.one kI⟩])
noncomputable def cVld:Cf:={ cff (fun _=>12) [6,12,73,74] [72] [72] [] []with base:=bSyB,find:=findV }
noncomputable abbrev lVld:List FuncId:=[41,49,73,74,12]
noncomputable def eVld:LId→LSt→M Rd1:=fun id L=>(if id=(41,0)then gVs 0 else if id=(41,1)then gVs 1 else gVt).round PP (kitF PP cVld (callT PP cVld [49,73,74,12]) yh0 41) (lcode 41 (if id=(41,2)then 3 else 2)) L
theorem t_vld(p:Pq)(w:Int):callRB cVld lVld 41 [] 0 1 110 (dSt p (iv w))=(M.call 6 [D.agg [iv (Pq.r0 p).1,sl 64 (List.map dLe (Pq.r0 p).2),sl 66 (List.map dCa (Pq.r0 p).3),sl 4 (List.map bv (Pq.r0 p).4)]] [] fun d0 o0=>M.br (D.int d0 == (0:Int)) (M.br ((Pq.r0 p).1 == (0:Int)) (M.br (decide ((1:Int)≤p.3)) (M.br (!decide (p.3≤nI (List.length (List.map bv (Pq.r0 p).4)))) (M.pure (Rs.pan (D.ifc 33 (ik (530:Int))),Blk.arr true 110 1 [dSt p (iv w)])) (M.call 6 [D.agg [iv (Pq.r1 p).1,sl 64 (List.map dLe (Pq.r1 p).2),sl 66 (List.map dCa (Pq.r1 p).3),sl 4 (List.map bv (Pq.r1 p).4)]] [] fun d1 o1=>M.br (D.int d1 == (0:Int)) (M.br ((Pq.r1 p).1 == w64 ((0:Int)+(1:Int))) (M.br (decide ((1:Int)≤p.4)) (M.br (!decide (p.4≤nI (List.length (List.map bv (Pq.r1 p).4)))) (M.pure (Rs.pan (D.ifc 33 (ik (530:Int))),Blk.arr true 110 1 [dSt p (iv w)])) (M.loop (41,0) (ls [D.p 0 0 0,ik (0:Int),ik (0:Int),sl 66 (List.map dCa p.6),iv (nI (List.length (List.map dCa p.6))),iv (0:Int)] [Blk.arr true 110 1 [dSt p (iv w)]]) (fun L2=>M.loop (41,1) (ls [D.p 0 0 0,ik (1:Int),ik (1:Int),sl 66 (D.items (D.cell (vb L2 0) 12)),iv (nI (List.length (D.items (D.cell (vb L2 0) 12)))),iv (0:Int)] [Blk.arr true 110 1 [D.agg [iv (D.int (D.cell (vb L2 0) 0)),sl 64 (D.items (D.cell (vb L2 0) 1)),sl 66 (D.items (D.cell (vb L2 0) 2)),sl 4 (D.items (D.cell (vb L2 0) 3)),iv (D.int (D.cell (vb L2 0) 4)),sl 64 (D.items (D.cell (vb L2 0) 5)),sl 66 (D.items (D.cell (vb L2 0) 6)),sl 4 (D.items (D.cell (vb L2 0) 7)),iv (D.int (D.cell (vb L2 0) 8)),iv (D.int (D.cell (vb L2 0) 9)),sl 64 (D.items (D.cell (vb L2 0) 10)),sl 66 (D.items (D.cell (vb L2 0) 11)),sl 66 (D.items (D.cell (vb L2 0) 12)),iv (D.int (D.cell (vb L2 0) 13))]]]) (fun L3=>M.loop (41,2) (ls [D.p 0 0 0,sl 64 (D.items (D.cell (vb L3 0) 10)),iv (nI (List.length (D.items (D.cell (vb L3 0) 10)))),iv (0:Int)] [Blk.arr true 110 1 [D.agg [iv (D.int (D.cell (vb L3 0) 0)),sl 64 (D.items (D.cell (vb L3 0) 1)),sl 66 (D.items (D.cell (vb L3 0) 2)),sl 4 (D.items (D.cell (vb L3 0) 3)),iv (D.int (D.cell (vb L3 0) 4)),sl 64 (D.items (D.cell (vb L3 0) 5)),sl 66 (D.items (D.cell (vb L3 0) 6)),sl 4 (D.items (D.cell (vb L3 0) 7)),iv (D.int (D.cell (vb L3 0) 8)),iv (D.int (D.cell (vb L3 0) 9)),sl 64 (D.items (D.cell (vb L3 0) 10)),sl 66 (D.items (D.cell (vb L3 0) 11)),sl 66 (D.items (D.cell (vb L3 0) 12)),iv (D.int (D.cell (vb L3 0) 13))]]]) (fun L4=>M.pure (Rs.ret (D.tup []),Blk.arr true 110 1 [D.agg [iv (D.int (D.cell (vb L4 0) 0)),sl 64 (D.items (D.cell (vb L4 0) 1)),sl 66 (D.items (D.cell (vb L4 0) 2)),sl 4 (D.items (D.cell (vb L4 0) 3)),iv (D.int (D.cell (vb L4 0) 4)),sl 64 (D.items (D.cell (vb L4 0) 5)),sl 66 (D.items (D.cell (vb L4 0) 6)),sl 4 (D.items (D.cell (vb L4 0) 7)),iv (D.int (D.cell (vb L4 0) 8)),iv (D.int (D.cell (vb L4 0) 9)),sl 64 (D.items (D.cell (vb L4 0) 10)),sl 66 (D.items (D.cell (vb L4 0) 11)),sl 66 (D.items (D.cell (vb L4 0) 12)),iv (D.int (D.cell (vb L4 0) 13))]])) (fun L4=>M.bad 154) fun L4=>M.bad 154) (fun L3=>M.bad 154) fun L3=>M.bad 154) (fun L2=>M.bad 154) fun L2=>M.bad 154)) (M.pure (Rs.pan (D.ifc 33 (ik (530:Int))),Blk.arr true 110 1 [dSt p (iv w)]))) (M.pure (Rs.pan (D.ifc 33 (ik (530:Int))),Blk.arr true 110 1 [dSt p (iv w)]))) (M.pure (Rs.pan (D.ifc 33 (ik (530:Int))),Blk.arr true 110 1 [dSt p (iv w)])))) (M.pure (Rs.pan (D.ifc 33 (ik (530:Int))),Blk.arr true 110 1 [dSt p (iv w)]))) (M.pure (Rs.pan (D.ifc 33 (ik (530:Int))),Blk.arr true 110 1 [dSt p (iv w)]))) (M.pure (Rs.pan (D.ifc 33 (ik (530:Int))),Blk.arr true 110 1 [dSt p (iv w)]))):=by kernel_rfl
theorem rd_vs0(p:Pq)(w:Int)(l:List Ca)(n i:Int):eVld (41,0) ⟨[.p 0 0 0,ik 0,ik 0,sl 66 (l.map dCa),iv n,iv i],[.arr true 110 1 [dSt p (iv w)]],[]⟩=(M.br (decide (i<n)) (M.get (List.map dCa l) i fun d0=>M.call 72 [D.p 0 0 0,iv (0:Int),D.fn (Fn.func 97) [] [D.ep (D.agg [iv (D.int (D.cell d0 0)),iv (D.int (D.cell d0 1))]) 0]] [(110,dSt p (iv w))] fun d1 o1=>M.br (!D.bool d1) (M.bad 151) (M.pure (none,(ls [D.p 0 0 0,ik (0:Int),ik (0:Int),sl 66 (List.map dCa l),iv n,iv (w64 (i+(1:Int)))] [Blk.arr true 110 1 [dSt p (iv w)]])))) (M.pure (some 0,(ls [D.p 0 0 0,ik (0:Int)] [Blk.arr true 110 1 [dSt p (iv w)]])))):=by kernel_rfl
theorem rd_vs1(p:Pq)(w:Int)(l:List Ca)(n i:Int):eVld (41,1) ⟨[.p 0 0 0,ik 1,ik 1,sl 66 (l.map dCa),iv n,iv i],[.arr true 110 1 [dSt p (iv w)]],[]⟩=(M.br (decide (i<n)) (M.get (List.map dCa l) i fun d0=>M.call 72 [D.p 0 0 0,iv (1:Int),D.fn (Fn.func 97) [] [D.ep (D.agg [iv (D.int (D.cell d0 0)),iv (D.int (D.cell d0 1))]) 0]] [(110,dSt p (iv w))] fun d1 o1=>M.br (!D.bool d1) (M.bad 151) (M.pure (none,(ls [D.p 0 0 0,ik (1:Int),ik (1:Int),sl 66 (List.map dCa l),iv n,iv (w64 (i+(1:Int)))] [Blk.arr true 110 1 [dSt p (iv w)]])))) (M.pure (some 0,(ls [D.p 0 0 0,ik (1:Int)] [Blk.arr true 110 1 [dSt p (iv w)]])))):=by kernel_rfl
theorem rd_vt(p:Pq)(w:Int)(l:List Le)(n i:Int):eVld (41,2) ⟨[.p 0 0 0,sl 64 (l.map dLe),iv n,iv i],[.arr true 110 1 [dSt p (iv w)]],[]⟩=(M.br (decide (i<n)) (M.get (List.map dLe l) i fun d0=>M.call 72 [D.p 0 0 0,iv (0:Int),D.fn (Fn.func 98) [] [D.ep (D.agg [iv (D.int (D.cell d0 0)),iv (D.int (D.cell d0 1)),iv (D.int (D.cell d0 2))]) 0]] [(110,dSt p (iv w))] fun d1 o1=>M.br (D.bool d1) (M.pure (none,(ls [D.p 0 0 0,sl 64 (List.map dLe l),iv n,iv (w64 (i+(1:Int)))] [Blk.arr true 110 1 [dSt p (iv w)]]))) (M.call 72 [D.p 0 0 0,iv (1:Int),D.fn (Fn.func 98) [] [D.ep (D.agg [iv (D.int (D.cell d0 0)),iv (D.int (D.cell d0 1)),iv (D.int (D.cell d0 2))]) 0]] [(110,dSt p (iv w))] fun d2 o2=>M.br (!D.bool d2) (M.bad 151) (M.pure (none,(ls [D.p 0 0 0,sl 64 (List.map dLe l),iv n,iv (w64 (i+(1:Int)))] [Blk.arr true 110 1 [dSt p (iv w)]]))))) (M.pure (some 0,(ls [] [Blk.arr true 110 1 [dSt p (iv w)]])))):=by kernel_rfl
structure VP(p:Pq)(E0 E1:List En):Prop where
 v0:VE 0 E0
 v1:VE 1 E1
 e0:p.r0=ofE 0 E0
 e1:p.r1=ofE 1 E1
 y0:1≤p.s0∧p.s0≤E0.length
 y1:1≤p.s1∧p.s1≤E1.length
 k0:∀ c∈p.k0,synB E0 p.s0 (hitC c)=true
 k1:∀ c∈p.k1,synB E1 p.s1 (hitC c)=true
 tl:∀ l∈p.told,synB E0 p.s0 (hitL l)=true∨synB E1 p.s1 (hitL l)=true
 z0:p.k0.length<100000
 z1:p.k1.length<100000
 zt:p.told.length<100000
abbrev gVld:Cn:=consΓB [conSy] (consΓ [conChk])
theorem get_map{α:Type}(f:α→D){l:List α}{i:Nat}(hi:i<l.length):(l.map f)[((i:Nat):Int).toNat]?=some (f (l[i]'hi)):=by
 rw [Int.toNat_natCast,List.getElem?_map,List.getElem?_eq_getElem hi];rfl
theorem vs0_lp(p:Pq)(w:Int)(E0 E1:List En)(hv:VP p E0 E1):∃ j L,Lp eVld gVld (41,0) ⟨[.p 0 0 0,ik 0,ik 0,sl 66 (p.k0.map dCa),iv p.k0.length,iv (((0:Nat)):Int)],[.arr true 110 1 [dSt p (iv w)]],[]⟩ j L∧j=0∧L=⟨[.p 0 0 0,ik 0],[.arr true 110 1 [dSt p (iv w)]],[]⟩:=by
 have hz:=hv.z0
 refine lp_up (σ:=Unit) (fun i _=>⟨[.p 0 0 0,ik 0,ik 0,sl 66 (p.k0.map dCa),iv p.k0.length,iv ((i:Nat):Int)],[.arr true 110 1 [dSt p (iv w)]],[]⟩) p.k0.length (fun _ _=>True) _ (fun i _ hi _=>?_) (fun _ _=>?_) (s:=()) trivial
 ·rw [rd_vs0]
  refine⟨fun _=>⟨by omega,_,get_map dCa hi,bv (synB E0 p.s0 (hitC (p.k0[i]'hi))),[dSt p (iv w)],.inr ⟨conSy,rfl,_,_,_,_,rfl,rfl,⟨p,w,0,E0,p.s0,fCa (p.k0[i]'hi),_,rfl,rfl,⟨hv.v0.sm,.inl ⟨rfl,hv.e0,rfl⟩⟩,.ca _,rfl,rfl⟩,rfl⟩,fun q=>?_,fun _=>.inl ⟨(),(by rw [w64_id (by omega) (by omega)];rfl),trivial⟩⟩,fun h=>absurd (of_decide_eq_false h) (by omega)⟩
  have q:(!synB E0 p.s0 (hitC (p.k0[i]'hi)))=true:=q
  rw [hv.k0 _ (List.getElem_mem hi)]at q
  cases q
 rw [rd_vs0]
 exact⟨fun h=>absurd (of_decide_eq_true h) (by omega),fun _=>⟨0,_,rfl,rfl,rfl⟩⟩
theorem vs1_lp(p:Pq)(w:Int)(E0 E1:List En)(hv:VP p E0 E1):∃ j L,Lp eVld gVld (41,1) ⟨[.p 0 0 0,ik 1,ik 1,sl 66 (p.k1.map dCa),iv p.k1.length,iv (((0:Nat)):Int)],[.arr true 110 1 [dSt p (iv w)]],[]⟩ j L∧j=0∧L=⟨[.p 0 0 0,ik 1],[.arr true 110 1 [dSt p (iv w)]],[]⟩:=by
 have hz:=hv.z1
 refine lp_up (σ:=Unit) (fun i _=>⟨[.p 0 0 0,ik 1,ik 1,sl 66 (p.k1.map dCa),iv p.k1.length,iv ((i:Nat):Int)],[.arr true 110 1 [dSt p (iv w)]],[]⟩) p.k1.length (fun _ _=>True) _ (fun i _ hi _=>?_) (fun _ _=>?_) (s:=()) trivial
 ·rw [rd_vs1]
  refine⟨fun _=>⟨by omega,_,get_map dCa hi,bv (synB E1 p.s1 (hitC (p.k1[i]'hi))),[dSt p (iv w)],.inr ⟨conSy,rfl,_,_,_,_,rfl,rfl,⟨p,w,1,E1,p.s1,fCa (p.k1[i]'hi),_,rfl,rfl,⟨hv.v1.sm,.inr ⟨rfl,hv.e1,rfl⟩⟩,.ca _,rfl,rfl⟩,rfl⟩,fun q=>?_,fun _=>.inl ⟨(),(by rw [w64_id (by omega) (by omega)];rfl),trivial⟩⟩,fun h=>absurd (of_decide_eq_false h) (by omega)⟩
  have q:(!synB E1 p.s1 (hitC (p.k1[i]'hi)))=true:=q
  rw [hv.k1 _ (List.getElem_mem hi)]at q
  cases q
 rw [rd_vs1]
 exact⟨fun h=>absurd (of_decide_eq_true h) (by omega),fun _=>⟨0,_,rfl,rfl,rfl⟩⟩
theorem vt_lp(p:Pq)(w:Int)(E0 E1:List En)(hv:VP p E0 E1):∃ j L,Lp eVld gVld (41,2) ⟨[.p 0 0 0,sl 64 (p.told.map dLe),iv p.told.length,iv (((0:Nat)):Int)],[.arr true 110 1 [dSt p (iv w)]],[]⟩ j L∧j=0∧L=⟨[],[.arr true 110 1 [dSt p (iv w)]],[]⟩:=by
 have hz:=hv.zt
 refine lp_up (σ:=Unit) (fun i _=>⟨[.p 0 0 0,sl 64 (p.told.map dLe),iv p.told.length,iv ((i:Nat):Int)],[.arr true 110 1 [dSt p (iv w)]],[]⟩) p.told.length (fun _ _=>True) _ (fun i _ hi _=>?_) (fun _ _=>?_) (s:=()) trivial
 ·rw [rd_vt]
  refine⟨fun _=>⟨by omega,_,get_map dLe hi,bv (synB E0 p.s0 (hitL (p.told[i]'hi))),[dSt p (iv w)],.inr ⟨conSy,rfl,_,_,_,_,rfl,rfl,⟨p,w,0,E0,p.s0,fLe (p.told[i]'hi),_,rfl,rfl,⟨hv.v0.sm,.inl ⟨rfl,hv.e0,rfl⟩⟩,.le _,rfl,rfl⟩,rfl⟩,fun _=>.inl ⟨(),(by rw [w64_id (by omega) (by omega)];rfl),trivial⟩,fun q=>⟨bv (synB E1 p.s1 (hitL (p.told[i]'hi))),[dSt p (iv w)],.inr ⟨conSy,rfl,_,_,_,_,rfl,rfl,⟨p,w,1,E1,p.s1,fLe (p.told[i]'hi),_,rfl,rfl,⟨hv.v1.sm,.inr ⟨rfl,hv.e1,rfl⟩⟩,.le _,rfl,rfl⟩,rfl⟩,fun q2=>?_,fun _=>.inl ⟨(),(by rw [w64_id (by omega) (by omega)];rfl),trivial⟩⟩⟩,fun h=>absurd (of_decide_eq_false h) (by omega)⟩
  have q:synB E0 p.s0 (hitL (p.told[i]'hi))=false:=q
  have q2:(!synB E1 p.s1 (hitL (p.told[i]'hi)))=true:=q2
  rcases hv.tl _ (List.getElem_mem hi)with h|h
  ·rw [h]at q;cases q
  rw [h]at q2;cases q2
 rw [rd_vt]
 exact⟨fun h=>absurd (of_decide_eq_true h) (by omega),fun _=>⟨0,_,rfl,rfl,rfl⟩⟩
theorem named_vld:NamedT eVld PP cVld lVld yh0 :=
 named_loops [lcode 41 0,lcode 41 1,lcode 41 2,lcode 41 3] (by kernel_rfl) (by kernel_rfl) (by kernel_rfl) (fun c hc s id g h L=>by
  rcases List.mem_cons.1 hc with hc|hc
  ·have e:cVld.find 41 yh0.tag (lcode 41 0) s=none:=by kernel_rfl
   rw [hc,e]at h;cases h
  rcases List.mem_cons.1 hc with hc|hc
  ·have e:cVld.find 41 yh0.tag (lcode 41 1) s=none:=by kernel_rfl
   rw [hc,e]at h;cases h
  rcases List.mem_cons.1 hc with hc|hc
  ·have e:cVld.find 41 yh0.tag (lcode 41 2) s=(match s.ts.getD 4 .any with
    | .k (.int _ 0)=>some ((41,0),gVs 0)
    | _=>some ((41,1),gVs 1)):=by kernel_rfl
   rw [hc,e]at h
   rw [hc]
   split at h
   ·have h:=Prod.mk.inj (Option.some.inj h)
    rw [← h.1,← h.2];rfl
   have h:=Prod.mk.inj (Option.some.inj h)
   rw [← h.1,← h.2];rfl
  have e:cVld.find 41 yh0.tag (lcode 41 3) s=some ((41,2),gVt):=by kernel_rfl
  rw [List.mem_singleton.1 hc]at h ⊢
  rw [e]at h
  have h:=Prod.mk.inj (Option.some.inj h)
  rw [← h.1,← h.2];rfl) (named_all (List.all_eq_true.1 (by kernel_rfl:[49,73,74,12].all plainB=true)))
theorem vld_ok(p:Pq)(w:Int)(E0 E1:List En)(hv:VP p E0 E1):CallSd PP 41 (.p 0 0 0::[]) (hpOf 1 [0] [.arr true 110 1 [dSt p (iv w)]]) (.ret (.tup [])) (hpOf 1 [0] [.arr true 110 1 [dSt p (iv w)]]):=by
 refine con_ofB (E:=eVld) (Γ:=gVld) (C:=cVld) (l:=lVld) kSt (.tup []) (show CallOk PP eVld gVld bSyB from consB_ok (m:=[⟨6,[kRp],.one kI⟩]) (mb:=[⟨72,0,110,kSt,[kI,.one .o],.one kB,true⟩]) (l:=[conChk]) (lb:=[conSy]) rfl rfl) named_vld (by decide) rfl rfl (to_wp ?_)
 rw [t_vld]
 have h0:=hv.y0
 have h1:=hv.y1
 have o0:nI (p.r0.od.map bv).length=(E0.length:Int):=by
  rw [List.length_map,hv.e0];show(((odE E0).length:Nat):Int)=_;rw [odE_len]
 have o1:nI (p.r1.od.map bv).length=(E1.length:Int):=by
  rw [List.length_map,hv.e1];show(((odE E1).length:Nat):Int)=_;rw [odE_len]
 refine⟨iv 0,[],.inl ⟨rfl,conChk,rfl,iv 0,⟨0,E0,hv.v0,(by rw [← hv.e0];rfl),rfl⟩,rfl⟩,fun _=>⟨fun _=>⟨fun _=>⟨fun q=>?_,fun _=>⟨iv 0,[],.inl ⟨rfl,conChk,rfl,iv 0,⟨1,E1,hv.v1,(by rw [← hv.e1];rfl),rfl⟩,rfl⟩,fun _=>⟨fun _=>⟨fun _=>⟨fun q=>?_,fun _=>?_⟩,fun q=>?_⟩,fun q=>?_⟩,fun q=>nomatch q⟩⟩,fun q=>?_⟩,fun q=>?_⟩,fun q=>nomatch q⟩
 ·rw [o0]at q
  rw [decide_eq_true h0.2]at q;cases q
 ·rw [o1]at q
  rw [decide_eq_true h1.2]at q;cases q
 ·obtain⟨_,_,g1,rfl,rfl⟩:=vs0_lp p w E0 E1 hv
  obtain⟨_,_,g2,rfl,rfl⟩:=vs1_lp p w E0 E1 hv
  obtain⟨_,_,g3,rfl,rfl⟩:=vt_lp p w E0 E1 hv
  refine .inl ⟨⟨[.p 0 0 0,ik 0],[.arr true 110 1 [dSt p (iv w)]],[]⟩,?_,.inl ⟨⟨[.p 0 0 0,ik 1],[.arr true 110 1 [dSt p (iv w)]],[]⟩,?_,.inl ⟨⟨[],[.arr true 110 1 [dSt p (iv w)]],[]⟩,?_,_,_,_,_,rfl,rfl,rfl,rfl,vv_st p w⟩⟩⟩
  ·rw [show nI (p.k0.map dCa).length=(p.k0.length:Int) by rw [List.length_map]]
   exact g1
  ·show Lp eVld gVld (41,1) ⟨[.p 0 0 0,ik 1,ik 1,sl 66 (p.k1.map dCa),iv (nI (p.k1.map dCa).length),iv 0],[.arr true 110 1 [dSt p (iv w)]],[]⟩ 0 _
   rw [show nI (p.k1.map dCa).length=(p.k1.length:Int) by rw [List.length_map]]
   exact g2
  show Lp eVld gVld (41,2) ⟨[.p 0 0 0,sl 64 (p.told.map dLe),iv (nI (p.told.map dLe).length),iv 0],[.arr true 110 1 [dSt p (iv w)]],[]⟩ 0 _
  rw [show nI (p.told.map dLe).length=(p.told.length:Int) by rw [List.length_map]]
  exact g3
 ·exact absurd (of_decide_eq_false q) (by have:=h1.1;omega)
 ·have q:(p.r1.self == 1)=false:=q
  rw [hv.e1]at q;cases q
 ·exact absurd (of_decide_eq_false q) (by have:=h0.1;omega)
 rw [hv.e0]at q;cases q
def conVld:ConB PP:=⟨41,0,1,110,kSt,[],.tup [],true,fun args c d c'=>∃ p w E0 E1,VP p E0 E1∧args=[]∧c=dSt p (iv w)∧d=.tup []∧c'=c,fun args c d c' ⟨p,w,E0,E1,hv,ha,hc,hd,hc'⟩=>by subst ha;subst hc';subst hd;subst hc;exact vld_ok p w E0 E1 hv,by decide,fun _ _ _ _ _ ⟨_,_,_,_,_,_,_,_,h⟩=>h⟩
end Z
namespace Z
def dPq(p:Pq):D:=.agg [iv p.r0.self,.sl false 64 (p.r0.le.map dLe) .non,.sl false 66 (p.r0.ca.map dCa) .non,.sl false 4 (p.r0.od.map bv) .non,iv p.r1.self,.sl false 64 (p.r1.le.map dLe) .non,.sl false 66 (p.r1.ca.map dCa) .non,.sl false 4 (p.r1.od.map bv) .non,iv p.s0,iv p.s1,.sl false 64 (p.told.map dLe) .non,.sl false 66 (p.k0.map dCa) .non,.sl false 66 (p.k1.map dCa) .non]
def kPq:SK0:=.row [.i .i64,.sl 64,.sl 66,.sl 4,.i .i64,.sl 64,.sl 66,.sl 4,.i .i64,.i .i64,.sl 64,.sl 66,.sl 66]
def rwDo:List CRow:=[⟨76,[kRp,kI,kI],.tup [kRp,kI]⟩,⟨77,[kRp,kLe],.tup [kRp,kI]⟩,⟨78,[kRp,kI,kI],.tup [kRp,kI]⟩,⟨17,[kRp],.tup [.one (.sl 57),kI]⟩,⟨20,[kI,.one (.sl 57)],.tup [kRp,kI]⟩]
noncomputable def bDo:Caller:=consB PP [⟨72,0,110,kSt,[kI,.one .o],.one kB,true⟩,⟨41,0,110,kSt,[],.tup [],true⟩] (cons PP rwDo)
noncomputable def cDo:Cf:={ cff (fun _=>12) [12,17,20,29,30,40,73,74,76,77,78] [72] [41,72] [] []with base:=bDo }
noncomputable abbrev lDo:List FuncId:=[22,39,40,42,43,44,45,46,47,48,75,49,73,74,29,30,12]
theorem t_do0(p:Pq)(k a b:Int):callR cDo lDo 22 [dPq p,.agg [iv k,ik 0,iv a,iv b]]=(M.call 41 [D.p 0 0 0] [(110,dSt p (iv (0:Int)))] fun d0 o0=>M.br (decide (k=(7:Int))) (M.br (decide (p.3≤a)) (M.br (!decide (a≤nI (List.length (List.map bv (Pq.r0 p).4)))) (M.pure (Rs.ret (D.tup [D.agg [ik (0:Int),D.sl true 64 [] Tok.nil,D.sl true 66 [] Tok.nil,D.sl true 4 [] Tok.nil,ik (0:Int),D.sl true 64 [] Tok.nil,D.sl true 66 [] Tok.nil,D.sl true 4 [] Tok.nil,ik (0:Int),ik (0:Int),D.sl true 64 [] Tok.nil,D.sl true 66 [] Tok.nil,D.sl true 66 [] Tok.nil],ik (530:Int)]))) (M.call 17 [D.agg [iv (Pq.r0 p).1,sl 64 (List.map dLe (Pq.r0 p).2),sl 66 (List.map dCa (Pq.r0 p).3),sl 4 (List.map bv (Pq.r0 p).4)]] [] fun d1 o1=>M.br (!D.int (List.getD (D.parts d1) 1 D.any) == (0:Int)) (M.br (D.int (List.getD (D.parts d1) 1 D.any) != (0:Int)) (M.pure (Rs.ret (D.tup [D.agg [ik (0:Int),D.sl true 64 [] Tok.nil,D.sl true 66 [] Tok.nil,D.sl true 4 [] Tok.nil,ik (0:Int),D.sl true 64 [] Tok.nil,D.sl true 66 [] Tok.nil,D.sl true 4 [] Tok.nil,ik (0:Int),ik (0:Int),D.sl true 64 [] Tok.nil,D.sl true 66 [] Tok.nil,D.sl true 66 [] Tok.nil],iv (D.int (List.getD (D.parts d1) 1 D.any))]))) (M.pure (Rs.ret (D.tup [D.agg [ik (0:Int),D.sl true 64 [] Tok.nil,D.sl true 66 [] Tok.nil,D.sl true 4 [] Tok.nil,ik (0:Int),D.sl true 64 [] Tok.nil,D.sl true 66 [] Tok.nil,D.sl true 4 [] Tok.nil,ik (0:Int),ik (0:Int),D.sl true 64 [] Tok.nil,D.sl true 66 [] Tok.nil,D.sl true 66 [] Tok.nil],ik (0:Int)])))) (M.need (decide ((0:Int)≤(0:Int)∧(0:Int)≤a∧a≤nI (List.length (D.items (List.getD (D.parts d1) 0 D.any))))) (M.call 20 [iv (0:Int),D.sl false 57 (List.take (Int.toNat a) (D.items (List.getD (D.parts d1) 0 D.any))) Tok.non] [] fun d2 o2=>M.br (!D.int (List.getD (D.parts d2) 1 D.any) == (0:Int)) (M.br (D.int (List.getD (D.parts d2) 1 D.any) != (0:Int)) (M.pure (Rs.ret (D.tup [D.agg [ik (0:Int),D.sl true 64 [] Tok.nil,D.sl true 66 [] Tok.nil,D.sl true 4 [] Tok.nil,ik (0:Int),D.sl true 64 [] Tok.nil,D.sl true 66 [] Tok.nil,D.sl true 4 [] Tok.nil,ik (0:Int),ik (0:Int),D.sl true 64 [] Tok.nil,D.sl true 66 [] Tok.nil,D.sl true 66 [] Tok.nil],iv (D.int (List.getD (D.parts d2) 1 D.any))]))) (M.pure (Rs.ret (D.tup [D.agg [ik (0:Int),D.sl true 64 [] Tok.nil,D.sl true 66 [] Tok.nil,D.sl true 4 [] Tok.nil,ik (0:Int),D.sl true 64 [] Tok.nil,D.sl true 66 [] Tok.nil,D.sl true 4 [] Tok.nil,ik (0:Int),ik (0:Int),D.sl true 64 [] Tok.nil,D.sl true 66 [] Tok.nil,D.sl true 66 [] Tok.nil],ik (0:Int)])))) (M.pure (Rs.ret (D.tup [D.agg [iv (D.int (D.cell (List.getD (D.parts d2) 0 D.any) 0)),D.sl false 64 (D.items (D.cell (List.getD (D.parts d2) 0 D.any) 1)) Tok.non,D.sl false 66 (D.items (D.cell (List.getD (D.parts d2) 0 D.any) 2)) Tok.non,D.sl false 4 (D.items (D.cell (List.getD (D.parts d2) 0 D.any) 3)) Tok.non,iv (Pq.r1 p).1,sl 64 (List.map dLe (Pq.r1 p).2),sl 66 (List.map dCa (Pq.r1 p).3),sl 4 (List.map bv (Pq.r1 p).4),iv p.3,iv p.4,sl 64 (List.map dLe p.5),sl 66 (List.map dCa p.6),sl 66 (List.map dCa p.7)],ik (0:Int)]))))))) (M.pure (Rs.ret (D.tup [D.agg [ik (0:Int),D.sl true 64 [] Tok.nil,D.sl true 66 [] Tok.nil,D.sl true 4 [] Tok.nil,ik (0:Int),D.sl true 64 [] Tok.nil,D.sl true 66 [] Tok.nil,D.sl true 4 [] Tok.nil,ik (0:Int),ik (0:Int),D.sl true 64 [] Tok.nil,D.sl true 66 [] Tok.nil,D.sl true 66 [] Tok.nil],ik (530:Int)])))) (M.br (decide (k=(6:Int))) (M.br (decide ((0:Int)≤a)) (M.br (!decide (a≤w64 (nI (List.length (List.map dCa (Pq.r0 p).3))-(1:Int)))) (M.pure (Rs.ret (D.tup [D.agg [ik (0:Int),D.sl true 64 [] Tok.nil,D.sl true 66 [] Tok.nil,D.sl true 4 [] Tok.nil,ik (0:Int),D.sl true 64 [] Tok.nil,D.sl true 66 [] Tok.nil,D.sl true 4 [] Tok.nil,ik (0:Int),ik (0:Int),D.sl true 64 [] Tok.nil,D.sl true 66 [] Tok.nil,D.sl true 66 [] Tok.nil],ik (530:Int)]))) (M.get (List.map dCa (Pq.r0 p).3) a fun d1=>M.call 72 [D.p 0 0 0,iv (0:Int),D.fn (Fn.func 97) [] [D.ep (D.agg [iv (D.int (D.cell d1 0)),iv (D.int (D.cell d1 1))]) 0]] [(110,dSt p (iv (0:Int)))] fun d2 o2=>M.br (!D.bool d2) (M.pure (Rs.ret (D.tup [D.agg [ik (0:Int),D.sl true 64 [] Tok.nil,D.sl true 66 [] Tok.nil,D.sl true 4 [] Tok.nil,ik (0:Int),D.sl true 64 [] Tok.nil,D.sl true 66 [] Tok.nil,D.sl true 4 [] Tok.nil,ik (0:Int),ik (0:Int),D.sl true 64 [] Tok.nil,D.sl true 66 [] Tok.nil,D.sl true 66 [] Tok.nil],ik (530:Int)]))) (M.need (decide ((0:Int)≤(0:Int)∧(0:Int)≤nI (List.length (List.map dCa p.6))∧nI (List.length (List.map dCa p.6))≤nI (List.length (List.map dCa p.6))∧nI (List.length (List.map dCa p.6))=nI (List.length (List.map dCa p.6)))) (M.get (List.map dCa (Pq.r0 p).3) a fun d3=>M.need (decide (List.length (List.take (Int.toNat (nI (List.length (List.map dCa p.6)))) (List.map dCa p.6))+(1:Nat)≤1099511627776)) (M.pure (Rs.ret (D.tup [D.agg [iv (Pq.r0 p).1,sl 64 (List.map dLe (Pq.r0 p).2),sl 66 (List.map dCa (Pq.r0 p).3),sl 4 (List.map bv (Pq.r0 p).4),iv (Pq.r1 p).1,sl 64 (List.map dLe (Pq.r1 p).2),sl 66 (List.map dCa (Pq.r1 p).3),sl 4 (List.map bv (Pq.r1 p).4),iv p.3,iv p.4,sl 64 (List.map dLe p.5),D.sl false 66 (List.take (Int.toNat (nI (List.length (List.map dCa p.6)))) (List.map dCa p.6)++[D.agg [iv (D.int (D.cell d3 0)),iv (D.int (D.cell d3 1))]]) (Tok.tip 359),sl 66 (List.map dCa p.7)],ik (0:Int)]))))))) (M.pure (Rs.ret (D.tup [D.agg [ik (0:Int),D.sl true 64 [] Tok.nil,D.sl true 66 [] Tok.nil,D.sl true 4 [] Tok.nil,ik (0:Int),D.sl true 64 [] Tok.nil,D.sl true 66 [] Tok.nil,D.sl true 4 [] Tok.nil,ik (0:Int),ik (0:Int),D.sl true 64 [] Tok.nil,D.sl true 66 [] Tok.nil,D.sl true 66 [] Tok.nil],ik (530:Int)])))) (M.br (decide (k=(5:Int))) (M.br (decide ((0:Int)≤a)) (M.br (!decide (a≤w64 (nI (List.length (List.map dLe (Pq.r0 p).2))-(1:Int)))) (M.pure (Rs.ret (D.tup [D.agg [ik (0:Int),D.sl true 64 [] Tok.nil,D.sl true 66 [] Tok.nil,D.sl true 4 [] Tok.nil,ik (0:Int),D.sl true 64 [] Tok.nil,D.sl true 66 [] Tok.nil,D.sl true 4 [] Tok.nil,ik (0:Int),ik (0:Int),D.sl true 64 [] Tok.nil,D.sl true 66 [] Tok.nil,D.sl true 66 [] Tok.nil],ik (530:Int)]))) (M.get (List.map dLe (Pq.r0 p).2) a fun d1=>M.call 72 [D.p 0 0 0,iv (0:Int),D.fn (Fn.func 98) [] [D.ep (D.agg [iv (D.int (D.cell d1 0)),iv (D.int (D.cell d1 1)),iv (D.int (D.cell d1 2))]) 0]] [(110,dSt p (iv (0:Int)))] fun d2 o2=>M.br (!D.bool d2) (M.pure (Rs.ret (D.tup [D.agg [ik (0:Int),D.sl true 64 [] Tok.nil,D.sl true 66 [] Tok.nil,D.sl true 4 [] Tok.nil,ik (0:Int),D.sl true 64 [] Tok.nil,D.sl true 66 [] Tok.nil,D.sl true 4 [] Tok.nil,ik (0:Int),ik (0:Int),D.sl true 64 [] Tok.nil,D.sl true 66 [] Tok.nil,D.sl true 66 [] Tok.nil],ik (530:Int)]))) (M.need (decide ((0:Int)≤(0:Int)∧(0:Int)≤nI (List.length (List.map dLe p.5))∧nI (List.length (List.map dLe p.5))≤nI (List.length (List.map dLe p.5))∧nI (List.length (List.map dLe p.5))=nI (List.length (List.map dLe p.5)))) (M.get (List.map dLe (Pq.r0 p).2) a fun d3=>M.need (decide (List.length (List.take (Int.toNat (nI (List.length (List.map dLe p.5)))) (List.map dLe p.5))+(1:Nat)≤1099511627776)) (M.pure (Rs.ret (D.tup [D.agg [iv (Pq.r0 p).1,sl 64 (List.map dLe (Pq.r0 p).2),sl 66 (List.map dCa (Pq.r0 p).3),sl 4 (List.map bv (Pq.r0 p).4),iv (Pq.r1 p).1,sl 64 (List.map dLe (Pq.r1 p).2),sl 66 (List.map dCa (Pq.r1 p).3),sl 4 (List.map bv (Pq.r1 p).4),iv p.3,iv p.4,D.sl false 64 (List.take (Int.toNat (nI (List.length (List.map dLe p.5)))) (List.map dLe p.5)++[D.agg [iv (D.int (D.cell d3 0)),iv (D.int (D.cell d3 1)),iv (D.int (D.cell d3 2))]]) (Tok.tip 215),sl 66 (List.map dCa p.6),sl 66 (List.map dCa p.7)],ik (0:Int)]))))))) (M.pure (Rs.ret (D.tup [D.agg [ik (0:Int),D.sl true 64 [] Tok.nil,D.sl true 66 [] Tok.nil,D.sl true 4 [] Tok.nil,ik (0:Int),D.sl true 64 [] Tok.nil,D.sl true 66 [] Tok.nil,D.sl true 4 [] Tok.nil,ik (0:Int),ik (0:Int),D.sl true 64 [] Tok.nil,D.sl true 66 [] Tok.nil,D.sl true 66 [] Tok.nil],ik (530:Int)])))) (M.br (decide (k=(4:Int))) (M.pure (Rs.ret (D.tup [D.agg [iv (Pq.r0 p).1,sl 64 (List.map dLe (Pq.r0 p).2),sl 66 (List.map dCa (Pq.r0 p).3),sl 4 (List.map bv (Pq.r0 p).4),iv (Pq.r1 p).1,sl 64 (List.map dLe (Pq.r1 p).2),sl 66 (List.map dCa (Pq.r1 p).3),sl 4 (List.map bv (Pq.r1 p).4),iv (nI (List.length (List.map bv (Pq.r0 p).4))),iv p.4,sl 64 (List.map dLe p.5),sl 66 (List.map dCa p.6),sl 66 (List.map dCa p.7)],ik (0:Int)]))) (M.br (decide (k=(3:Int))) (M.call 78 [D.agg [iv (Pq.r0 p).1,sl 64 (List.map dLe (Pq.r0 p).2),sl 66 (List.map dCa (Pq.r0 p).3),sl 4 (List.map bv (Pq.r0 p).4)],iv a,iv b] [] fun d1 o1=>M.br (!D.int (List.getD (D.parts d1) 1 D.any) == (0:Int)) (M.br (D.int (List.getD (D.parts d1) 1 D.any) != (0:Int)) (M.pure (Rs.ret (D.tup [D.agg [ik (0:Int),D.sl true 64 [] Tok.nil,D.sl true 66 [] Tok.nil,D.sl true 4 [] Tok.nil,ik (0:Int),D.sl true 64 [] Tok.nil,D.sl true 66 [] Tok.nil,D.sl true 4 [] Tok.nil,ik (0:Int),ik (0:Int),D.sl true 64 [] Tok.nil,D.sl true 66 [] Tok.nil,D.sl true 66 [] Tok.nil],iv (D.int (List.getD (D.parts d1) 1 D.any))]))) (M.pure (Rs.ret (D.tup [D.agg [ik (0:Int),D.sl true 64 [] Tok.nil,D.sl true 66 [] Tok.nil,D.sl true 4 [] Tok.nil,ik (0:Int),D.sl true 64 [] Tok.nil,D.sl true 66 [] Tok.nil,D.sl true 4 [] Tok.nil,ik (0:Int),ik (0:Int),D.sl true 64 [] Tok.nil,D.sl true 66 [] Tok.nil,D.sl true 66 [] Tok.nil],ik (0:Int)])))) (M.pure (Rs.ret (D.tup [D.agg [iv (D.int (D.cell (List.getD (D.parts d1) 0 D.any) 0)),D.sl false 64 (D.items (D.cell (List.getD (D.parts d1) 0 D.any) 1)) Tok.non,D.sl false 66 (D.items (D.cell (List.getD (D.parts d1) 0 D.any) 2)) Tok.non,D.sl false 4 (D.items (D.cell (List.getD (D.parts d1) 0 D.any) 3)) Tok.non,iv (Pq.r1 p).1,sl 64 (List.map dLe (Pq.r1 p).2),sl 66 (List.map dCa (Pq.r1 p).3),sl 4 (List.map bv (Pq.r1 p).4),iv p.3,iv p.4,sl 64 (List.map dLe p.5),sl 66 (List.map dCa p.6),sl 66 (List.map dCa p.7)],ik (0:Int)])))) (M.br (decide (k=(2:Int))) (M.br (decide ((0:Int)≤a)) (M.br (!decide (a≤w64 (nI (List.length (List.map dLe p.5))-(1:Int)))) (M.pure (Rs.ret (D.tup [D.agg [ik (0:Int),D.sl true 64 [] Tok.nil,D.sl true 66 [] Tok.nil,D.sl true 4 [] Tok.nil,ik (0:Int),D.sl true 64 [] Tok.nil,D.sl true 66 [] Tok.nil,D.sl true 4 [] Tok.nil,ik (0:Int),ik (0:Int),D.sl true 64 [] Tok.nil,D.sl true 66 [] Tok.nil,D.sl true 66 [] Tok.nil],ik (530:Int)]))) (M.get (List.map dLe p.5) a fun d1=>M.call 77 [D.agg [iv (Pq.r0 p).1,sl 64 (List.map dLe (Pq.r0 p).2),sl 66 (List.map dCa (Pq.r0 p).3),sl 4 (List.map bv (Pq.r0 p).4)],D.agg [iv (D.int (D.cell d1 0)),iv (D.int (D.cell d1 1)),iv (D.int (D.cell d1 2))]] [] fun d2 o2=>M.br (!D.int (List.getD (D.parts d2) 1 D.any) == (0:Int)) (M.br (D.int (List.getD (D.parts d2) 1 D.any) != (0:Int)) (M.pure (Rs.ret (D.tup [D.agg [ik (0:Int),D.sl true 64 [] Tok.nil,D.sl true 66 [] Tok.nil,D.sl true 4 [] Tok.nil,ik (0:Int),D.sl true 64 [] Tok.nil,D.sl true 66 [] Tok.nil,D.sl true 4 [] Tok.nil,ik (0:Int),ik (0:Int),D.sl true 64 [] Tok.nil,D.sl true 66 [] Tok.nil,D.sl true 66 [] Tok.nil],iv (D.int (List.getD (D.parts d2) 1 D.any))]))) (M.pure (Rs.ret (D.tup [D.agg [ik (0:Int),D.sl true 64 [] Tok.nil,D.sl true 66 [] Tok.nil,D.sl true 4 [] Tok.nil,ik (0:Int),D.sl true 64 [] Tok.nil,D.sl true 66 [] Tok.nil,D.sl true 4 [] Tok.nil,ik (0:Int),ik (0:Int),D.sl true 64 [] Tok.nil,D.sl true 66 [] Tok.nil,D.sl true 66 [] Tok.nil],ik (0:Int)])))) (M.pure (Rs.ret (D.tup [D.agg [iv (D.int (D.cell (List.getD (D.parts d2) 0 D.any) 0)),D.sl false 64 (D.items (D.cell (List.getD (D.parts d2) 0 D.any) 1)) Tok.non,D.sl false 66 (D.items (D.cell (List.getD (D.parts d2) 0 D.any) 2)) Tok.non,D.sl false 4 (D.items (D.cell (List.getD (D.parts d2) 0 D.any) 3)) Tok.non,iv (Pq.r1 p).1,sl 64 (List.map dLe (Pq.r1 p).2),sl 66 (List.map dCa (Pq.r1 p).3),sl 4 (List.map bv (Pq.r1 p).4),iv p.3,iv p.4,sl 64 (List.map dLe p.5),sl 66 (List.map dCa p.6),sl 66 (List.map dCa p.7)],ik (0:Int)]))))) (M.pure (Rs.ret (D.tup [D.agg [ik (0:Int),D.sl true 64 [] Tok.nil,D.sl true 66 [] Tok.nil,D.sl true 4 [] Tok.nil,ik (0:Int),D.sl true 64 [] Tok.nil,D.sl true 66 [] Tok.nil,D.sl true 4 [] Tok.nil,ik (0:Int),ik (0:Int),D.sl true 64 [] Tok.nil,D.sl true 66 [] Tok.nil,D.sl true 66 [] Tok.nil],ik (530:Int)])))) (M.br (decide (k=(1:Int))) (M.call 76 [D.agg [iv (Pq.r0 p).1,sl 64 (List.map dLe (Pq.r0 p).2),sl 66 (List.map dCa (Pq.r0 p).3),sl 4 (List.map bv (Pq.r0 p).4)],iv a,iv b] [] fun d1 o1=>M.br (!D.int (List.getD (D.parts d1) 1 D.any) == (0:Int)) (M.br (D.int (List.getD (D.parts d1) 1 D.any) != (0:Int)) (M.pure (Rs.ret (D.tup [D.agg [ik (0:Int),D.sl true 64 [] Tok.nil,D.sl true 66 [] Tok.nil,D.sl true 4 [] Tok.nil,ik (0:Int),D.sl true 64 [] Tok.nil,D.sl true 66 [] Tok.nil,D.sl true 4 [] Tok.nil,ik (0:Int),ik (0:Int),D.sl true 64 [] Tok.nil,D.sl true 66 [] Tok.nil,D.sl true 66 [] Tok.nil],iv (D.int (List.getD (D.parts d1) 1 D.any))]))) (M.pure (Rs.ret (D.tup [D.agg [ik (0:Int),D.sl true 64 [] Tok.nil,D.sl true 66 [] Tok.nil,D.sl true 4 [] Tok.nil,ik (0:Int),D.sl true 64 [] Tok.nil,D.sl true 66 [] Tok.nil,D.sl true 4 [] Tok.nil,ik (0:Int),ik (0:Int),D.sl true 64 [] Tok.nil,D.sl true 66 [] Tok.nil,D.sl true 66 [] Tok.nil],ik (0:Int)])))) (M.pure (Rs.ret (D.tup [D.agg [iv (D.int (D.cell (List.getD (D.parts d1) 0 D.any) 0)),D.sl false 64 (D.items (D.cell (List.getD (D.parts d1) 0 D.any) 1)) Tok.non,D.sl false 66 (D.items (D.cell (List.getD (D.parts d1) 0 D.any) 2)) Tok.non,D.sl false 4 (D.items (D.cell (List.getD (D.parts d1) 0 D.any) 3)) Tok.non,iv (Pq.r1 p).1,sl 64 (List.map dLe (Pq.r1 p).2),sl 66 (List.map dCa (Pq.r1 p).3),sl 4 (List.map bv (Pq.r1 p).4),iv p.3,iv p.4,sl 64 (List.map dLe p.5),sl 66 (List.map dCa p.6),sl 66 (List.map dCa p.7)],ik (0:Int)])))) (M.pure (Rs.ret (D.tup [D.agg [ik (0:Int),D.sl true 64 [] Tok.nil,D.sl true 66 [] Tok.nil,D.sl true 4 [] Tok.nil,ik (0:Int),D.sl true 64 [] Tok.nil,D.sl true 66 [] Tok.nil,D.sl true 4 [] Tok.nil,ik (0:Int),ik (0:Int),D.sl true 64 [] Tok.nil,D.sl true 66 [] Tok.nil,D.sl true 66 [] Tok.nil],ik (530:Int)])))))))))):=by kernel_rfl
theorem t_do1(p:Pq)(k a b:Int):callR cDo lDo 22 [dPq p,.agg [iv k,ik 1,iv a,iv b]]=(M.call 41 [D.p 0 0 0] [(110,dSt p (iv (1:Int)))] fun d0 o0=>M.br (decide (k=(7:Int))) (M.br (decide (p.4≤a)) (M.br (!decide (a≤nI (List.length (List.map bv (Pq.r1 p).4)))) (M.pure (Rs.ret (D.tup [D.agg [ik (0:Int),D.sl true 64 [] Tok.nil,D.sl true 66 [] Tok.nil,D.sl true 4 [] Tok.nil,ik (0:Int),D.sl true 64 [] Tok.nil,D.sl true 66 [] Tok.nil,D.sl true 4 [] Tok.nil,ik (0:Int),ik (0:Int),D.sl true 64 [] Tok.nil,D.sl true 66 [] Tok.nil,D.sl true 66 [] Tok.nil],ik (530:Int)]))) (M.call 17 [D.agg [iv (Pq.r1 p).1,sl 64 (List.map dLe (Pq.r1 p).2),sl 66 (List.map dCa (Pq.r1 p).3),sl 4 (List.map bv (Pq.r1 p).4)]] [] fun d1 o1=>M.br (!D.int (List.getD (D.parts d1) 1 D.any) == (0:Int)) (M.br (D.int (List.getD (D.parts d1) 1 D.any) != (0:Int)) (M.pure (Rs.ret (D.tup [D.agg [ik (0:Int),D.sl true 64 [] Tok.nil,D.sl true 66 [] Tok.nil,D.sl true 4 [] Tok.nil,ik (0:Int),D.sl true 64 [] Tok.nil,D.sl true 66 [] Tok.nil,D.sl true 4 [] Tok.nil,ik (0:Int),ik (0:Int),D.sl true 64 [] Tok.nil,D.sl true 66 [] Tok.nil,D.sl true 66 [] Tok.nil],iv (D.int (List.getD (D.parts d1) 1 D.any))]))) (M.pure (Rs.ret (D.tup [D.agg [ik (0:Int),D.sl true 64 [] Tok.nil,D.sl true 66 [] Tok.nil,D.sl true 4 [] Tok.nil,ik (0:Int),D.sl true 64 [] Tok.nil,D.sl true 66 [] Tok.nil,D.sl true 4 [] Tok.nil,ik (0:Int),ik (0:Int),D.sl true 64 [] Tok.nil,D.sl true 66 [] Tok.nil,D.sl true 66 [] Tok.nil],ik (0:Int)])))) (M.need (decide ((0:Int)≤(0:Int)∧(0:Int)≤a∧a≤nI (List.length (D.items (List.getD (D.parts d1) 0 D.any))))) (M.call 20 [iv (1:Int),D.sl false 57 (List.take (Int.toNat a) (D.items (List.getD (D.parts d1) 0 D.any))) Tok.non] [] fun d2 o2=>M.br (!D.int (List.getD (D.parts d2) 1 D.any) == (0:Int)) (M.br (D.int (List.getD (D.parts d2) 1 D.any) != (0:Int)) (M.pure (Rs.ret (D.tup [D.agg [ik (0:Int),D.sl true 64 [] Tok.nil,D.sl true 66 [] Tok.nil,D.sl true 4 [] Tok.nil,ik (0:Int),D.sl true 64 [] Tok.nil,D.sl true 66 [] Tok.nil,D.sl true 4 [] Tok.nil,ik (0:Int),ik (0:Int),D.sl true 64 [] Tok.nil,D.sl true 66 [] Tok.nil,D.sl true 66 [] Tok.nil],iv (D.int (List.getD (D.parts d2) 1 D.any))]))) (M.pure (Rs.ret (D.tup [D.agg [ik (0:Int),D.sl true 64 [] Tok.nil,D.sl true 66 [] Tok.nil,D.sl true 4 [] Tok.nil,ik (0:Int),D.sl true 64 [] Tok.nil,D.sl true 66 [] Tok.nil,D.sl true 4 [] Tok.nil,ik (0:Int),ik (0:Int),D.sl true 64 [] Tok.nil,D.sl true 66 [] Tok.nil,D.sl true 66 [] Tok.nil],ik (0:Int)])))) (M.pure (Rs.ret (D.tup [D.agg [iv (Pq.r0 p).1,sl 64 (List.map dLe (Pq.r0 p).2),sl 66 (List.map dCa (Pq.r0 p).3),sl 4 (List.map bv (Pq.r0 p).4),iv (D.int (D.cell (List.getD (D.parts d2) 0 D.any) 0)),D.sl false 64 (D.items (D.cell (List.getD (D.parts d2) 0 D.any) 1)) Tok.non,D.sl false 66 (D.items (D.cell (List.getD (D.parts d2) 0 D.any) 2)) Tok.non,D.sl false 4 (D.items (D.cell (List.getD (D.parts d2) 0 D.any) 3)) Tok.non,iv p.3,iv p.4,sl 64 (List.map dLe p.5),sl 66 (List.map dCa p.6),sl 66 (List.map dCa p.7)],ik (0:Int)]))))))) (M.pure (Rs.ret (D.tup [D.agg [ik (0:Int),D.sl true 64 [] Tok.nil,D.sl true 66 [] Tok.nil,D.sl true 4 [] Tok.nil,ik (0:Int),D.sl true 64 [] Tok.nil,D.sl true 66 [] Tok.nil,D.sl true 4 [] Tok.nil,ik (0:Int),ik (0:Int),D.sl true 64 [] Tok.nil,D.sl true 66 [] Tok.nil,D.sl true 66 [] Tok.nil],ik (530:Int)])))) (M.br (decide (k=(6:Int))) (M.br (decide ((0:Int)≤a)) (M.br (!decide (a≤w64 (nI (List.length (List.map dCa (Pq.r1 p).3))-(1:Int)))) (M.pure (Rs.ret (D.tup [D.agg [ik (0:Int),D.sl true 64 [] Tok.nil,D.sl true 66 [] Tok.nil,D.sl true 4 [] Tok.nil,ik (0:Int),D.sl true 64 [] Tok.nil,D.sl true 66 [] Tok.nil,D.sl true 4 [] Tok.nil,ik (0:Int),ik (0:Int),D.sl true 64 [] Tok.nil,D.sl true 66 [] Tok.nil,D.sl true 66 [] Tok.nil],ik (530:Int)]))) (M.get (List.map dCa (Pq.r1 p).3) a fun d1=>M.call 72 [D.p 0 0 0,iv (1:Int),D.fn (Fn.func 97) [] [D.ep (D.agg [iv (D.int (D.cell d1 0)),iv (D.int (D.cell d1 1))]) 0]] [(110,dSt p (iv (1:Int)))] fun d2 o2=>M.br (!D.bool d2) (M.pure (Rs.ret (D.tup [D.agg [ik (0:Int),D.sl true 64 [] Tok.nil,D.sl true 66 [] Tok.nil,D.sl true 4 [] Tok.nil,ik (0:Int),D.sl true 64 [] Tok.nil,D.sl true 66 [] Tok.nil,D.sl true 4 [] Tok.nil,ik (0:Int),ik (0:Int),D.sl true 64 [] Tok.nil,D.sl true 66 [] Tok.nil,D.sl true 66 [] Tok.nil],ik (530:Int)]))) (M.need (decide ((0:Int)≤(0:Int)∧(0:Int)≤nI (List.length (List.map dCa p.7))∧nI (List.length (List.map dCa p.7))≤nI (List.length (List.map dCa p.7))∧nI (List.length (List.map dCa p.7))=nI (List.length (List.map dCa p.7)))) (M.get (List.map dCa (Pq.r1 p).3) a fun d3=>M.need (decide (List.length (List.take (Int.toNat (nI (List.length (List.map dCa p.7)))) (List.map dCa p.7))+(1:Nat)≤1099511627776)) (M.pure (Rs.ret (D.tup [D.agg [iv (Pq.r0 p).1,sl 64 (List.map dLe (Pq.r0 p).2),sl 66 (List.map dCa (Pq.r0 p).3),sl 4 (List.map bv (Pq.r0 p).4),iv (Pq.r1 p).1,sl 64 (List.map dLe (Pq.r1 p).2),sl 66 (List.map dCa (Pq.r1 p).3),sl 4 (List.map bv (Pq.r1 p).4),iv p.3,iv p.4,sl 64 (List.map dLe p.5),sl 66 (List.map dCa p.6),D.sl false 66 (List.take (Int.toNat (nI (List.length (List.map dCa p.7)))) (List.map dCa p.7)++[D.agg [iv (D.int (D.cell d3 0)),iv (D.int (D.cell d3 1))]]) (Tok.tip 359)],ik (0:Int)]))))))) (M.pure (Rs.ret (D.tup [D.agg [ik (0:Int),D.sl true 64 [] Tok.nil,D.sl true 66 [] Tok.nil,D.sl true 4 [] Tok.nil,ik (0:Int),D.sl true 64 [] Tok.nil,D.sl true 66 [] Tok.nil,D.sl true 4 [] Tok.nil,ik (0:Int),ik (0:Int),D.sl true 64 [] Tok.nil,D.sl true 66 [] Tok.nil,D.sl true 66 [] Tok.nil],ik (530:Int)])))) (M.br (decide (k=(5:Int))) (M.br (decide ((0:Int)≤a)) (M.br (!decide (a≤w64 (nI (List.length (List.map dLe (Pq.r1 p).2))-(1:Int)))) (M.pure (Rs.ret (D.tup [D.agg [ik (0:Int),D.sl true 64 [] Tok.nil,D.sl true 66 [] Tok.nil,D.sl true 4 [] Tok.nil,ik (0:Int),D.sl true 64 [] Tok.nil,D.sl true 66 [] Tok.nil,D.sl true 4 [] Tok.nil,ik (0:Int),ik (0:Int),D.sl true 64 [] Tok.nil,D.sl true 66 [] Tok.nil,D.sl true 66 [] Tok.nil],ik (530:Int)]))) (M.get (List.map dLe (Pq.r1 p).2) a fun d1=>M.call 72 [D.p 0 0 0,iv (1:Int),D.fn (Fn.func 98) [] [D.ep (D.agg [iv (D.int (D.cell d1 0)),iv (D.int (D.cell d1 1)),iv (D.int (D.cell d1 2))]) 0]] [(110,dSt p (iv (1:Int)))] fun d2 o2=>M.br (!D.bool d2) (M.pure (Rs.ret (D.tup [D.agg [ik (0:Int),D.sl true 64 [] Tok.nil,D.sl true 66 [] Tok.nil,D.sl true 4 [] Tok.nil,ik (0:Int),D.sl true 64 [] Tok.nil,D.sl true 66 [] Tok.nil,D.sl true 4 [] Tok.nil,ik (0:Int),ik (0:Int),D.sl true 64 [] Tok.nil,D.sl true 66 [] Tok.nil,D.sl true 66 [] Tok.nil],ik (530:Int)]))) (M.need (decide ((0:Int)≤(0:Int)∧(0:Int)≤nI (List.length (List.map dLe p.5))∧nI (List.length (List.map dLe p.5))≤nI (List.length (List.map dLe p.5))∧nI (List.length (List.map dLe p.5))=nI (List.length (List.map dLe p.5)))) (M.get (List.map dLe (Pq.r1 p).2) a fun d3=>M.need (decide (List.length (List.take (Int.toNat (nI (List.length (List.map dLe p.5)))) (List.map dLe p.5))+(1:Nat)≤1099511627776)) (M.pure (Rs.ret (D.tup [D.agg [iv (Pq.r0 p).1,sl 64 (List.map dLe (Pq.r0 p).2),sl 66 (List.map dCa (Pq.r0 p).3),sl 4 (List.map bv (Pq.r0 p).4),iv (Pq.r1 p).1,sl 64 (List.map dLe (Pq.r1 p).2),sl 66 (List.map dCa (Pq.r1 p).3),sl 4 (List.map bv (Pq.r1 p).4),iv p.3,iv p.4,D.sl false 64 (List.take (Int.toNat (nI (List.length (List.map dLe p.5)))) (List.map dLe p.5)++[D.agg [iv (D.int (D.cell d3 0)),iv (D.int (D.cell d3 1)),iv (D.int (D.cell d3 2))]]) (Tok.tip 215),sl 66 (List.map dCa p.6),sl 66 (List.map dCa p.7)],ik (0:Int)]))))))) (M.pure (Rs.ret (D.tup [D.agg [ik (0:Int),D.sl true 64 [] Tok.nil,D.sl true 66 [] Tok.nil,D.sl true 4 [] Tok.nil,ik (0:Int),D.sl true 64 [] Tok.nil,D.sl true 66 [] Tok.nil,D.sl true 4 [] Tok.nil,ik (0:Int),ik (0:Int),D.sl true 64 [] Tok.nil,D.sl true 66 [] Tok.nil,D.sl true 66 [] Tok.nil],ik (530:Int)])))) (M.br (decide (k=(4:Int))) (M.pure (Rs.ret (D.tup [D.agg [iv (Pq.r0 p).1,sl 64 (List.map dLe (Pq.r0 p).2),sl 66 (List.map dCa (Pq.r0 p).3),sl 4 (List.map bv (Pq.r0 p).4),iv (Pq.r1 p).1,sl 64 (List.map dLe (Pq.r1 p).2),sl 66 (List.map dCa (Pq.r1 p).3),sl 4 (List.map bv (Pq.r1 p).4),iv p.3,iv (nI (List.length (List.map bv (Pq.r1 p).4))),sl 64 (List.map dLe p.5),sl 66 (List.map dCa p.6),sl 66 (List.map dCa p.7)],ik (0:Int)]))) (M.br (decide (k=(3:Int))) (M.call 78 [D.agg [iv (Pq.r1 p).1,sl 64 (List.map dLe (Pq.r1 p).2),sl 66 (List.map dCa (Pq.r1 p).3),sl 4 (List.map bv (Pq.r1 p).4)],iv a,iv b] [] fun d1 o1=>M.br (!D.int (List.getD (D.parts d1) 1 D.any) == (0:Int)) (M.br (D.int (List.getD (D.parts d1) 1 D.any) != (0:Int)) (M.pure (Rs.ret (D.tup [D.agg [ik (0:Int),D.sl true 64 [] Tok.nil,D.sl true 66 [] Tok.nil,D.sl true 4 [] Tok.nil,ik (0:Int),D.sl true 64 [] Tok.nil,D.sl true 66 [] Tok.nil,D.sl true 4 [] Tok.nil,ik (0:Int),ik (0:Int),D.sl true 64 [] Tok.nil,D.sl true 66 [] Tok.nil,D.sl true 66 [] Tok.nil],iv (D.int (List.getD (D.parts d1) 1 D.any))]))) (M.pure (Rs.ret (D.tup [D.agg [ik (0:Int),D.sl true 64 [] Tok.nil,D.sl true 66 [] Tok.nil,D.sl true 4 [] Tok.nil,ik (0:Int),D.sl true 64 [] Tok.nil,D.sl true 66 [] Tok.nil,D.sl true 4 [] Tok.nil,ik (0:Int),ik (0:Int),D.sl true 64 [] Tok.nil,D.sl true 66 [] Tok.nil,D.sl true 66 [] Tok.nil],ik (0:Int)])))) (M.pure (Rs.ret (D.tup [D.agg [iv (Pq.r0 p).1,sl 64 (List.map dLe (Pq.r0 p).2),sl 66 (List.map dCa (Pq.r0 p).3),sl 4 (List.map bv (Pq.r0 p).4),iv (D.int (D.cell (List.getD (D.parts d1) 0 D.any) 0)),D.sl false 64 (D.items (D.cell (List.getD (D.parts d1) 0 D.any) 1)) Tok.non,D.sl false 66 (D.items (D.cell (List.getD (D.parts d1) 0 D.any) 2)) Tok.non,D.sl false 4 (D.items (D.cell (List.getD (D.parts d1) 0 D.any) 3)) Tok.non,iv p.3,iv p.4,sl 64 (List.map dLe p.5),sl 66 (List.map dCa p.6),sl 66 (List.map dCa p.7)],ik (0:Int)])))) (M.br (decide (k=(2:Int))) (M.br (decide ((0:Int)≤a)) (M.br (!decide (a≤w64 (nI (List.length (List.map dLe p.5))-(1:Int)))) (M.pure (Rs.ret (D.tup [D.agg [ik (0:Int),D.sl true 64 [] Tok.nil,D.sl true 66 [] Tok.nil,D.sl true 4 [] Tok.nil,ik (0:Int),D.sl true 64 [] Tok.nil,D.sl true 66 [] Tok.nil,D.sl true 4 [] Tok.nil,ik (0:Int),ik (0:Int),D.sl true 64 [] Tok.nil,D.sl true 66 [] Tok.nil,D.sl true 66 [] Tok.nil],ik (530:Int)]))) (M.get (List.map dLe p.5) a fun d1=>M.call 77 [D.agg [iv (Pq.r1 p).1,sl 64 (List.map dLe (Pq.r1 p).2),sl 66 (List.map dCa (Pq.r1 p).3),sl 4 (List.map bv (Pq.r1 p).4)],D.agg [iv (D.int (D.cell d1 0)),iv (D.int (D.cell d1 1)),iv (D.int (D.cell d1 2))]] [] fun d2 o2=>M.br (!D.int (List.getD (D.parts d2) 1 D.any) == (0:Int)) (M.br (D.int (List.getD (D.parts d2) 1 D.any) != (0:Int)) (M.pure (Rs.ret (D.tup [D.agg [ik (0:Int),D.sl true 64 [] Tok.nil,D.sl true 66 [] Tok.nil,D.sl true 4 [] Tok.nil,ik (0:Int),D.sl true 64 [] Tok.nil,D.sl true 66 [] Tok.nil,D.sl true 4 [] Tok.nil,ik (0:Int),ik (0:Int),D.sl true 64 [] Tok.nil,D.sl true 66 [] Tok.nil,D.sl true 66 [] Tok.nil],iv (D.int (List.getD (D.parts d2) 1 D.any))]))) (M.pure (Rs.ret (D.tup [D.agg [ik (0:Int),D.sl true 64 [] Tok.nil,D.sl true 66 [] Tok.nil,D.sl true 4 [] Tok.nil,ik (0:Int),D.sl true 64 [] Tok.nil,D.sl true 66 [] Tok.nil,D.sl true 4 [] Tok.nil,ik (0:Int),ik (0:Int),D.sl true 64 [] Tok.nil,D.sl true 66 [] Tok.nil,D.sl true 66 [] Tok.nil],ik (0:Int)])))) (M.pure (Rs.ret (D.tup [D.agg [iv (Pq.r0 p).1,sl 64 (List.map dLe (Pq.r0 p).2),sl 66 (List.map dCa (Pq.r0 p).3),sl 4 (List.map bv (Pq.r0 p).4),iv (D.int (D.cell (List.getD (D.parts d2) 0 D.any) 0)),D.sl false 64 (D.items (D.cell (List.getD (D.parts d2) 0 D.any) 1)) Tok.non,D.sl false 66 (D.items (D.cell (List.getD (D.parts d2) 0 D.any) 2)) Tok.non,D.sl false 4 (D.items (D.cell (List.getD (D.parts d2) 0 D.any) 3)) Tok.non,iv p.3,iv p.4,sl 64 (List.map dLe p.5),sl 66 (List.map dCa p.6),sl 66 (List.map dCa p.7)],ik (0:Int)]))))) (M.pure (Rs.ret (D.tup [D.agg [ik (0:Int),D.sl true 64 [] Tok.nil,D.sl true 66 [] Tok.nil,D.sl true 4 [] Tok.nil,ik (0:Int),D.sl true 64 [] Tok.nil,D.sl true 66 [] Tok.nil,D.sl true 4 [] Tok.nil,ik (0:Int),ik (0:Int),D.sl true 64 [] Tok.nil,D.sl true 66 [] Tok.nil,D.sl true 66 [] Tok.nil],ik (530:Int)])))) (M.br (decide (k=(1:Int))) (M.call 76 [D.agg [iv (Pq.r1 p).1,sl 64 (List.map dLe (Pq.r1 p).2),sl 66 (List.map dCa (Pq.r1 p).3),sl 4 (List.map bv (Pq.r1 p).4)],iv a,iv b] [] fun d1 o1=>M.br (!D.int (List.getD (D.parts d1) 1 D.any) == (0:Int)) (M.br (D.int (List.getD (D.parts d1) 1 D.any) != (0:Int)) (M.pure (Rs.ret (D.tup [D.agg [ik (0:Int),D.sl true 64 [] Tok.nil,D.sl true 66 [] Tok.nil,D.sl true 4 [] Tok.nil,ik (0:Int),D.sl true 64 [] Tok.nil,D.sl true 66 [] Tok.nil,D.sl true 4 [] Tok.nil,ik (0:Int),ik (0:Int),D.sl true 64 [] Tok.nil,D.sl true 66 [] Tok.nil,D.sl true 66 [] Tok.nil],iv (D.int (List.getD (D.parts d1) 1 D.any))]))) (M.pure (Rs.ret (D.tup [D.agg [ik (0:Int),D.sl true 64 [] Tok.nil,D.sl true 66 [] Tok.nil,D.sl true 4 [] Tok.nil,ik (0:Int),D.sl true 64 [] Tok.nil,D.sl true 66 [] Tok.nil,D.sl true 4 [] Tok.nil,ik (0:Int),ik (0:Int),D.sl true 64 [] Tok.nil,D.sl true 66 [] Tok.nil,D.sl true 66 [] Tok.nil],ik (0:Int)])))) (M.pure (Rs.ret (D.tup [D.agg [iv (Pq.r0 p).1,sl 64 (List.map dLe (Pq.r0 p).2),sl 66 (List.map dCa (Pq.r0 p).3),sl 4 (List.map bv (Pq.r0 p).4),iv (D.int (D.cell (List.getD (D.parts d1) 0 D.any) 0)),D.sl false 64 (D.items (D.cell (List.getD (D.parts d1) 0 D.any) 1)) Tok.non,D.sl false 66 (D.items (D.cell (List.getD (D.parts d1) 0 D.any) 2)) Tok.non,D.sl false 4 (D.items (D.cell (List.getD (D.parts d1) 0 D.any) 3)) Tok.non,iv p.3,iv p.4,sl 64 (List.map dLe p.5),sl 66 (List.map dCa p.6),sl 66 (List.map dCa p.7)],ik (0:Int)])))) (M.pure (Rs.ret (D.tup [D.agg [ik (0:Int),D.sl true 64 [] Tok.nil,D.sl true 66 [] Tok.nil,D.sl true 4 [] Tok.nil,ik (0:Int),D.sl true 64 [] Tok.nil,D.sl true 66 [] Tok.nil,D.sl true 4 [] Tok.nil,ik (0:Int),ik (0:Int),D.sl true 64 [] Tok.nil,D.sl true 66 [] Tok.nil,D.sl true 66 [] Tok.nil],ik (530:Int)])))))))))):=by kernel_rfl
theorem t_dou(p:Pq)(k u a b:Int):callR cDo [22,39,40,49,12] 22 [dPq p,.agg [iv k,iv u,iv a,iv b]]=(M.call 41 [D.p 0 0 0] [(110,dSt p (iv u))] fun d0 o0=>M.br (decide (k=(7:Int))) (M.br (decide ((0:Int)≤u)) (M.br (!decide (u≤(1:Int))) (M.pure (Rs.ret (D.tup [D.agg [ik (0:Int),D.sl true 64 [] Tok.nil,D.sl true 66 [] Tok.nil,D.sl true 4 [] Tok.nil,ik (0:Int),D.sl true 64 [] Tok.nil,D.sl true 66 [] Tok.nil,D.sl true 4 [] Tok.nil,ik (0:Int),ik (0:Int),D.sl true 64 [] Tok.nil,D.sl true 66 [] Tok.nil,D.sl true 66 [] Tok.nil],ik (530:Int)]))) (M.bad 210)) (M.pure (Rs.ret (D.tup [D.agg [ik (0:Int),D.sl true 64 [] Tok.nil,D.sl true 66 [] Tok.nil,D.sl true 4 [] Tok.nil,ik (0:Int),D.sl true 64 [] Tok.nil,D.sl true 66 [] Tok.nil,D.sl true 4 [] Tok.nil,ik (0:Int),ik (0:Int),D.sl true 64 [] Tok.nil,D.sl true 66 [] Tok.nil,D.sl true 66 [] Tok.nil],ik (530:Int)])))) (M.br (decide (k=(6:Int))) (M.br (decide ((0:Int)≤u)) (M.br (!decide (u≤(1:Int))) (M.pure (Rs.ret (D.tup [D.agg [ik (0:Int),D.sl true 64 [] Tok.nil,D.sl true 66 [] Tok.nil,D.sl true 4 [] Tok.nil,ik (0:Int),D.sl true 64 [] Tok.nil,D.sl true 66 [] Tok.nil,D.sl true 4 [] Tok.nil,ik (0:Int),ik (0:Int),D.sl true 64 [] Tok.nil,D.sl true 66 [] Tok.nil,D.sl true 66 [] Tok.nil],ik (530:Int)]))) (M.bad 210)) (M.pure (Rs.ret (D.tup [D.agg [ik (0:Int),D.sl true 64 [] Tok.nil,D.sl true 66 [] Tok.nil,D.sl true 4 [] Tok.nil,ik (0:Int),D.sl true 64 [] Tok.nil,D.sl true 66 [] Tok.nil,D.sl true 4 [] Tok.nil,ik (0:Int),ik (0:Int),D.sl true 64 [] Tok.nil,D.sl true 66 [] Tok.nil,D.sl true 66 [] Tok.nil],ik (530:Int)])))) (M.br (decide (k=(5:Int))) (M.br (decide ((0:Int)≤u)) (M.br (!decide (u≤(1:Int))) (M.pure (Rs.ret (D.tup [D.agg [ik (0:Int),D.sl true 64 [] Tok.nil,D.sl true 66 [] Tok.nil,D.sl true 4 [] Tok.nil,ik (0:Int),D.sl true 64 [] Tok.nil,D.sl true 66 [] Tok.nil,D.sl true 4 [] Tok.nil,ik (0:Int),ik (0:Int),D.sl true 64 [] Tok.nil,D.sl true 66 [] Tok.nil,D.sl true 66 [] Tok.nil],ik (530:Int)]))) (M.bad 210)) (M.pure (Rs.ret (D.tup [D.agg [ik (0:Int),D.sl true 64 [] Tok.nil,D.sl true 66 [] Tok.nil,D.sl true 4 [] Tok.nil,ik (0:Int),D.sl true 64 [] Tok.nil,D.sl true 66 [] Tok.nil,D.sl true 4 [] Tok.nil,ik (0:Int),ik (0:Int),D.sl true 64 [] Tok.nil,D.sl true 66 [] Tok.nil,D.sl true 66 [] Tok.nil],ik (530:Int)])))) (M.br (decide (k=(4:Int))) (M.br (decide ((0:Int)≤u)) (M.br (!decide (u≤(1:Int))) (M.pure (Rs.ret (D.tup [D.agg [ik (0:Int),D.sl true 64 [] Tok.nil,D.sl true 66 [] Tok.nil,D.sl true 4 [] Tok.nil,ik (0:Int),D.sl true 64 [] Tok.nil,D.sl true 66 [] Tok.nil,D.sl true 4 [] Tok.nil,ik (0:Int),ik (0:Int),D.sl true 64 [] Tok.nil,D.sl true 66 [] Tok.nil,D.sl true 66 [] Tok.nil],ik (530:Int)]))) (M.bad 210)) (M.pure (Rs.ret (D.tup [D.agg [ik (0:Int),D.sl true 64 [] Tok.nil,D.sl true 66 [] Tok.nil,D.sl true 4 [] Tok.nil,ik (0:Int),D.sl true 64 [] Tok.nil,D.sl true 66 [] Tok.nil,D.sl true 4 [] Tok.nil,ik (0:Int),ik (0:Int),D.sl true 64 [] Tok.nil,D.sl true 66 [] Tok.nil,D.sl true 66 [] Tok.nil],ik (530:Int)])))) (M.br (decide (k=(3:Int))) (M.br (decide ((0:Int)≤u)) (M.br (!decide (u≤(1:Int))) (M.pure (Rs.ret (D.tup [D.agg [ik (0:Int),D.sl true 64 [] Tok.nil,D.sl true 66 [] Tok.nil,D.sl true 4 [] Tok.nil,ik (0:Int),D.sl true 64 [] Tok.nil,D.sl true 66 [] Tok.nil,D.sl true 4 [] Tok.nil,ik (0:Int),ik (0:Int),D.sl true 64 [] Tok.nil,D.sl true 66 [] Tok.nil,D.sl true 66 [] Tok.nil],ik (530:Int)]))) (M.bad 210)) (M.pure (Rs.ret (D.tup [D.agg [ik (0:Int),D.sl true 64 [] Tok.nil,D.sl true 66 [] Tok.nil,D.sl true 4 [] Tok.nil,ik (0:Int),D.sl true 64 [] Tok.nil,D.sl true 66 [] Tok.nil,D.sl true 4 [] Tok.nil,ik (0:Int),ik (0:Int),D.sl true 64 [] Tok.nil,D.sl true 66 [] Tok.nil,D.sl true 66 [] Tok.nil],ik (530:Int)])))) (M.br (decide (k=(2:Int))) (M.br (decide ((0:Int)≤u)) (M.br (!decide (u≤(1:Int))) (M.pure (Rs.ret (D.tup [D.agg [ik (0:Int),D.sl true 64 [] Tok.nil,D.sl true 66 [] Tok.nil,D.sl true 4 [] Tok.nil,ik (0:Int),D.sl true 64 [] Tok.nil,D.sl true 66 [] Tok.nil,D.sl true 4 [] Tok.nil,ik (0:Int),ik (0:Int),D.sl true 64 [] Tok.nil,D.sl true 66 [] Tok.nil,D.sl true 66 [] Tok.nil],ik (530:Int)]))) (M.bad 210)) (M.pure (Rs.ret (D.tup [D.agg [ik (0:Int),D.sl true 64 [] Tok.nil,D.sl true 66 [] Tok.nil,D.sl true 4 [] Tok.nil,ik (0:Int),D.sl true 64 [] Tok.nil,D.sl true 66 [] Tok.nil,D.sl true 4 [] Tok.nil,ik (0:Int),ik (0:Int),D.sl true 64 [] Tok.nil,D.sl true 66 [] Tok.nil,D.sl true 66 [] Tok.nil],ik (530:Int)])))) (M.br (decide (k=(1:Int))) (M.br (decide ((0:Int)≤u)) (M.br (!decide (u≤(1:Int))) (M.pure (Rs.ret (D.tup [D.agg [ik (0:Int),D.sl true 64 [] Tok.nil,D.sl true 66 [] Tok.nil,D.sl true 4 [] Tok.nil,ik (0:Int),D.sl true 64 [] Tok.nil,D.sl true 66 [] Tok.nil,D.sl true 4 [] Tok.nil,ik (0:Int),ik (0:Int),D.sl true 64 [] Tok.nil,D.sl true 66 [] Tok.nil,D.sl true 66 [] Tok.nil],ik (530:Int)]))) (M.bad 210)) (M.pure (Rs.ret (D.tup [D.agg [ik (0:Int),D.sl true 64 [] Tok.nil,D.sl true 66 [] Tok.nil,D.sl true 4 [] Tok.nil,ik (0:Int),D.sl true 64 [] Tok.nil,D.sl true 66 [] Tok.nil,D.sl true 4 [] Tok.nil,ik (0:Int),ik (0:Int),D.sl true 64 [] Tok.nil,D.sl true 66 [] Tok.nil,D.sl true 66 [] Tok.nil],ik (530:Int)])))) (M.pure (Rs.ret (D.tup [D.agg [ik (0:Int),D.sl true 64 [] Tok.nil,D.sl true 66 [] Tok.nil,D.sl true 4 [] Tok.nil,ik (0:Int),D.sl true 64 [] Tok.nil,D.sl true 66 [] Tok.nil,D.sl true 4 [] Tok.nil,ik (0:Int),ik (0:Int),D.sl true 64 [] Tok.nil,D.sl true 66 [] Tok.nil,D.sl true 66 [] Tok.nil],ik (530:Int)])))))))))):=by kernel_rfl
theorem ve_take{s:Int}{E:List En}(hv:VE s E){n:Nat}(hn:0<n):VE s (E.take n):=by
 have hp:0<E.length:=List.length_pos_iff.2 hv.ne
 refine⟨hv.self,fun h=>?_,Nat.le_trans ?_ hv.le,Nat.lt_of_le_of_lt (by rw [List.length_take];omega) hv.sm,fun x hx=>hv.nf x (List.mem_of_mem_take hx),fun i x hx=>?_⟩
 ·have:(E.take n).length=0:=by rw [h];rfl
  rw [List.length_take]at this;omega
 ·unfold leE
  rw [List.length_map,List.length_map]
  exact(List.Sublist.filter _ (List.take_sublist n E)).length_le
 rw [List.getElem?_take]at hx
 split at hx
 ·rename_i hi
  rw [List.take_take,Nat.min_eq_left (Nat.le_of_lt hi)]
  exact hv.nx i x hx
 cases hx
def conDec:Con PP:=⟨76,[kRp,kI,kI],.tup [kRp,kI],fun args d=>∃ s E x y,VE s E∧args=[dRp (ofE s E),iv x,iv y]∧d=.tup [dRp (decP (ofE s E) x y).1,iv (decP (ofE s E) x y).2],fun args d ⟨s,E,x,y,hv,ha,hd⟩ h=>by subst ha;subst hd;exact dec_ok s E hv x y h⟩
def conLrn:Con PP:=⟨77,[kRp,kLe],.tup [kRp,kI],fun args d=>∃ s E l,VE s E∧args=[dRp (ofE s E),dLe l]∧d=.tup [dRp (lrnP (ofE s E) l).1,iv (lrnP (ofE s E) l).2],fun args d ⟨s,E,l,hv,ha,hd⟩ h=>by subst ha;subst hd;exact lrn_ok s E hv l h⟩
def conCall:Con PP:=⟨78,[kRp,kI,kI],.tup [kRp,kI],fun args d=>∃ s E x y,VE s E∧args=[dRp (ofE s E),iv x,iv y]∧d=.tup [dRp (callP (ofE s E) ⟨x,y⟩).1,iv (callP (ofE s E) ⟨x,y⟩).2],fun args d ⟨s,E,x,y,hv,ha,hd⟩ h=>by subst ha;subst hd;exact call_ok s E hv x y h⟩
abbrev conDos:List (Con PP):=[conDec,conLrn,conCall,conRcs,conLoa]
abbrev gDo:Cn:=consΓB [conSy,conVld] (consΓ conDos)
theorem bDo_ok{E:LId→LSt→M Rd1}:CallOk PP E gDo cDo.base:=show CallOk PP E gDo bDo from consB_ok (m:=rwDo) (mb:=[⟨72,0,110,kSt,[kI,.one .o],.one kB,true⟩,⟨41,0,110,kSt,[],.tup [],true⟩]) (l:=conDos) (lb:=[conSy,conVld]) rfl rfl
def zP:Pq:=⟨zR,zR,0,0,[],[],[]⟩
def rsP(x:Rp×Int)(f:Rp→Pq):Pq×Int:=if x.2=0 then(f x.1,0)else(zP,x.2)
theorem vv_pq(p:Pq):(dPq p).vv=dPq p:=by
 unfold dPq
 simp only [D.vv,vvL,vvL_map,vv_les,vv_cas,vv_ods]
theorem fin_do{x:Pq×Int}{q:Pq}{e:Int}(h:x=(q,e)){d0 d1:D}(h1:canR (.tup [kPq,kI]) d0=some d1)(h2:d1=.tup [dPq q,iv e]∨d1.vv=.tup [dPq q,iv e]):Res (.tup [kPq,kI]) (.tup [dPq x.1,iv x.2]) (.ret d0):=by
 subst h
 refine⟨d0,d1,rfl,h1,?_⟩
 rcases h2 with rfl|h2
 ·show D.tup [(dPq q).vv,iv e]=_
  rw [vv_pq]
 exact h2
theorem need4(n:Nat):decide ((0:Int)≤(0:Int)∧(0:Int)≤nI n∧nI n≤nI n∧nI n=nI n)=true:=decide_eq_true ⟨Int.le_refl _,Int.natCast_nonneg _,Int.le_refl _,rfl⟩
theorem take_nI{l:List D}:List.take (Int.toNat (nI l.length)) l=l:=by rw [Int.toNat_natCast,List.take_length]
theorem room{l:List D}(h:l.length<100000):decide (l.length+1≤1099511627776)=true:=decide_eq_true (by omega)
theorem named_do:NamedT Z.E0 PP cDo lDo yh0:=named_all (List.all_eq_true.1 (by kernel_rfl:lDo.all plainB=true))
def doP0(p:Pq)(E:List En)(k a b:Int):Pq×Int :=
 if k=7 then(if p.s0≤a∧a≤(E.length:Int)then({ p with r0:=ofE 0 (E.take a.toNat) },0)else(zP,530))
 else if k=6 then(if 0≤a then(match p.r0.ca[a.toNat]? with
  | some c=>if synB E p.s0 (hitC c)=true then({ p with k0:=p.k0++[c] },0)else(zP,530)
  | none=>(zP,530))else(zP,530))
 else if k=5 then(if 0≤a then(match p.r0.le[a.toNat]? with
  | some l=>if synB E p.s0 (hitL l)=true then({ p with told:=p.told++[l] },0)else(zP,530)
  | none=>(zP,530))else(zP,530))
 else if k=4 then({ p with s0:=(p.r0.od.map bv).length },0)
 else if k=3 then rsP (callP p.r0 ⟨a,b⟩) fun r=>{ p with r0:=r }
 else if k=2 then(if 0≤a then(match p.told[a.toNat]? with
  | some l=>rsP (lrnP p.r0 l) fun r=>{ p with r0:=r }
  | none=>(zP,530))else(zP,530))
 else if k=1 then rsP (decP p.r0 a b) fun r=>{ p with r0:=r }
 else(zP,530)
theorem do0_ok(p:Pq)(E0 E1:List En)(hv:VP p E0 E1)(k a b:Int)(h:Heap):CallSd PP 22 [dPq p,.agg [iv k,ik 0,iv a,iv b]] h (.ret (.tup [dPq (doP0 p E0 k a b).1,iv (doP0 p E0 k a b).2])) h:=by
 refine con_of (E:=Z.E0) (Γ:=gDo) (C:=cDo) (l:=lDo) (.tup [kPq,kI]) bDo_ok named_do rfl rfl rfl (to_wp ?_) h
 rw [t_do0]
 have hvu:=hv.v0
 have heu:=hv.e0
 have hyu:=hv.y0
 have hle:=leE_len E0
 have hce:=caE_len E0
 have hsm:=hvu.sm
 have hel:p.r0.le.length=(leE E0).length:=by rw [heu];rfl
 have hec:p.r0.ca.length=(caE E0).length:=by rw [heu];rfl
 have heo:nI (p.r0.od.map bv).length=(E0.length:Int):=by
  rw [List.length_map,heu];show(((odE E0).length:Nat):Int)=_;rw [odE_len]
 have har:dRp p.r0=dRp (ofE 0 E0):=by rw [heu]
 refine⟨.tup [],[dSt p (iv 0)],.inr ⟨conVld,rfl,_,_,_,_,rfl,rfl,⟨p,0,E0,E1,hv,rfl,rfl,rfl,rfl⟩,rfl⟩,fun h7=>?_,fun n7=>⟨fun h6=>?_,fun n6=>⟨fun h5=>?_,fun n5=>⟨fun h4=>?_,fun n4=>⟨fun h3=>?_,fun n3=>⟨fun h2=>?_,fun n2=>⟨fun h1=>?_,fun n1=>?_⟩⟩⟩⟩⟩⟩⟩
 ·have h7:=of_decide_eq_true h7
  refine⟨fun g1=>⟨fun g2=>?_,fun g2=>?_⟩,fun g1=>?_⟩
  ·rw [heo]at g2
   have g2:¬ a≤(E0.length:Int):=by simpa using g2
   exact fin_do (q:=zP) (e:=530) (by unfold doP0;rw [if_pos h7,if_neg (fun h=>g2 h.2)]) rfl (.inr rfl)
  ·rw [heo]at g2
   have g1:=of_decide_eq_true g1
   have g2:a≤(E0.length:Int):=by simpa using g2
   have hb:(rcsE E0).length=E0.length:=by unfold rcsE;rw [List.length_map]
   refine⟨.tup [sl 57 ((rcsE E0).map recD),iv 0],[],.inl ⟨rfl,conRcs,rfl,_,⟨0,E0,hvu,(by rw [← har];rfl),rfl⟩,rfl⟩,(fun h=>nomatch h),fun _=>⟨?_,.tup [dRp (ofE 0 (E0.take a.toNat)),iv 0],[],.inl ⟨rfl,conLoa,rfl,_,⟨0,E0.take a.toNat,ve_take hvu (by omega),?_,rfl⟩,rfl⟩,(fun h=>nomatch h),fun _=>?_⟩⟩
   ·refine decide_eq_true ⟨Int.le_refl _,by omega,?_⟩
    show a≤nI ((rcsE E0).map recD).length
    rw [List.length_map,hb];exact g2
   ·show [iv 0,sl 57 (List.take (Int.toNat a) ((rcsE E0).map recD))]=_
    unfold rcsE
    rw [List.map_take,List.map_take]
   exact fin_do (q:={ p with r0:=ofE 0 (E0.take a.toNat) }) (e:=0) (by unfold doP0;rw [if_pos h7,if_pos ⟨g1,g2⟩]) rfl (.inl rfl)
  have g1:=of_decide_eq_false g1
  exact fin_do (q:=zP) (e:=530) (by unfold doP0;rw [if_pos h7,if_neg (fun h=>g1 h.1)]) rfl (.inr rfl)
 ·have h6:=of_decide_eq_true h6
  refine⟨fun g1=>⟨fun g2=>?_,fun g2=>?_⟩,fun g1=>?_⟩
  ·rw [List.length_map,w64_id (by simp only [nI];omega) (by simp only [nI];omega)]at g2
   have g2:¬ a≤(p.r0.ca.length:Int)-1:=by simpa using g2
   have g1:=of_decide_eq_true g1
   exact fin_do (q:=zP) (e:=530) (by unfold doP0;rw [if_neg (of_decide_eq_false n7),if_pos h6,if_pos g1,List.getElem?_eq_none (by omega)]) rfl (.inr rfl)
  ·rw [List.length_map,w64_id (by simp only [nI];omega) (by simp only [nI];omega)]at g2
   have g2:a≤(p.r0.ca.length:Int)-1:=by simpa using g2
   have g1:=of_decide_eq_true g1
   obtain⟨c,hc⟩:∃ c,p.r0.ca[a.toNat]?=some c:=⟨_,List.getElem?_eq_getElem (by omega)⟩
   have hg:(p.r0.ca.map dCa)[a.toNat]?=some (dCa c):=by rw [List.getElem?_map,hc];rfl
   refine⟨g1,_,hg,bv (synB E0 p.s0 (hitC c)),[dSt p (iv 0)],.inr ⟨conSy,rfl,_,_,_,_,rfl,rfl,⟨p,0,0,E0,p.s0,fCa c,_,rfl,rfl,⟨hvu.sm,.inl ⟨rfl,heu,rfl⟩⟩,.ca _,rfl,rfl⟩,rfl⟩,fun q=>?_,fun q=>⟨need4 _,g1,_,hg,?_⟩⟩
   ·have q:synB E0 p.s0 (hitC c)=false:=by simpa using (show(!synB E0 p.s0 (hitC c))=true from q)
    exact fin_do (q:=zP) (e:=530) (by unfold doP0;rw [if_neg (of_decide_eq_false n7),if_pos h6,if_pos g1,hc];simp [q]) rfl (.inr rfl)
   have q:synB E0 p.s0 (hitC c)=true:=by simpa using (show(!synB E0 p.s0 (hitC c))=false from q)
   have hz:=hv.z0
   rw [take_nI]
   refine⟨room (by rw [List.length_map];exact hz),?_⟩
   rw [show List.map dCa p.k0++[D.agg [iv (D.int (D.cell (dCa c) 0)),iv (D.int (D.cell (dCa c) 1))]]=List.map dCa (p.k0++[c]) from by rw [List.map_append];rfl]
   exact fin_do (q:={ p with k0:=p.k0++[c] }) (e:=0) (by unfold doP0;rw [if_neg (of_decide_eq_false n7),if_pos h6,if_pos g1,hc];simp [q]) rfl (.inl rfl)
  have g1:=of_decide_eq_false g1
  exact fin_do (q:=zP) (e:=530) (by unfold doP0;rw [if_neg (of_decide_eq_false n7),if_pos h6,if_neg g1]) rfl (.inr rfl)
 ·have h5:=of_decide_eq_true h5
  refine⟨fun g1=>⟨fun g2=>?_,fun g2=>?_⟩,fun g1=>?_⟩
  ·rw [List.length_map,w64_id (by simp only [nI];omega) (by simp only [nI];omega)]at g2
   have g2:¬ a≤(p.r0.le.length:Int)-1:=by simpa using g2
   have g1:=of_decide_eq_true g1
   exact fin_do (q:=zP) (e:=530) (by unfold doP0;rw [if_neg (of_decide_eq_false n7),if_neg (of_decide_eq_false n6),if_pos h5,if_pos g1,List.getElem?_eq_none (by omega)]) rfl (.inr rfl)
  ·rw [List.length_map,w64_id (by simp only [nI];omega) (by simp only [nI];omega)]at g2
   have g2:a≤(p.r0.le.length:Int)-1:=by simpa using g2
   have g1:=of_decide_eq_true g1
   obtain⟨c,hc⟩:∃ c,p.r0.le[a.toNat]?=some c:=⟨_,List.getElem?_eq_getElem (by omega)⟩
   have hg:(p.r0.le.map dLe)[a.toNat]?=some (dLe c):=by rw [List.getElem?_map,hc];rfl
   refine⟨g1,_,hg,bv (synB E0 p.s0 (hitL c)),[dSt p (iv 0)],.inr ⟨conSy,rfl,_,_,_,_,rfl,rfl,⟨p,0,0,E0,p.s0,fLe c,_,rfl,rfl,⟨hvu.sm,.inl ⟨rfl,heu,rfl⟩⟩,.le _,rfl,rfl⟩,rfl⟩,fun q=>?_,fun q=>⟨need4 _,g1,_,hg,?_⟩⟩
   ·have q:synB E0 p.s0 (hitL c)=false:=by simpa using (show(!synB E0 p.s0 (hitL c))=true from q)
    exact fin_do (q:=zP) (e:=530) (by unfold doP0;rw [if_neg (of_decide_eq_false n7),if_neg (of_decide_eq_false n6),if_pos h5,if_pos g1,hc];simp [q]) rfl (.inr rfl)
   have q:synB E0 p.s0 (hitL c)=true:=by simpa using (show(!synB E0 p.s0 (hitL c))=false from q)
   have hz:=hv.zt
   rw [take_nI]
   refine⟨room (by rw [List.length_map];exact hz),?_⟩
   rw [show List.map dLe p.told++[D.agg [iv (D.int (D.cell (dLe c) 0)),iv (D.int (D.cell (dLe c) 1)),iv (D.int (D.cell (dLe c) 2))]]=List.map dLe (p.told++[c]) from by rw [List.map_append];rfl]
   exact fin_do (q:={ p with told:=p.told++[c] }) (e:=0) (by unfold doP0;rw [if_neg (of_decide_eq_false n7),if_neg (of_decide_eq_false n6),if_pos h5,if_pos g1,hc];simp [q]) rfl (.inl rfl)
  have g1:=of_decide_eq_false g1
  exact fin_do (q:=zP) (e:=530) (by unfold doP0;rw [if_neg (of_decide_eq_false n7),if_neg (of_decide_eq_false n6),if_pos h5,if_neg g1]) rfl (.inr rfl)
 ·have h4:=of_decide_eq_true h4
  exact fin_do (q:={ p with s0:=(p.r0.od.map bv).length }) (e:=0) (by unfold doP0;rw [if_neg (of_decide_eq_false n7),if_neg (of_decide_eq_false n6),if_neg (of_decide_eq_false n5),if_pos h4]) rfl (.inl rfl)
 ·have h3:=of_decide_eq_true h3
  refine⟨.tup [dRp (callP p.r0 ⟨a,b⟩).1,iv (callP p.r0 ⟨a,b⟩).2],[],.inl ⟨rfl,conCall,rfl,_,⟨0,E0,a,b,hvu,(by rw [← har];rfl),(by rw [heu])⟩,rfl⟩,fun q=>⟨fun q2=>?_,fun q2=>?_⟩,fun q=>?_⟩
  ·have q2:(callP p.r0 ⟨a,b⟩).2≠0:=by simpa using (show((callP p.r0 ⟨a,b⟩).2 != 0)=true from q2)
   exact fin_do (q:=zP) (e:=(callP p.r0 ⟨a,b⟩).2) (by unfold doP0;rw [if_neg (of_decide_eq_false n7),if_neg (of_decide_eq_false n6),if_neg (of_decide_eq_false n5),if_neg (of_decide_eq_false n4),if_pos h3];(try dsimp only);unfold rsP;rw [if_neg q2]) rfl (.inr rfl)
  ·have q:(callP p.r0 ⟨a,b⟩).2≠0:=by simpa using (show(!((callP p.r0 ⟨a,b⟩).2 == 0))=true from q)
   have q2:(callP p.r0 ⟨a,b⟩).2=0:=by simpa using (show((callP p.r0 ⟨a,b⟩).2 != 0)=false from q2)
   exact absurd q2 q
  have q:(callP p.r0 ⟨a,b⟩).2=0:=by simpa using (show(!((callP p.r0 ⟨a,b⟩).2 == 0))=false from q)
  exact fin_do (q:={ p with r0:=(callP p.r0 ⟨a,b⟩).1 }) (e:=0) (by unfold doP0;rw [if_neg (of_decide_eq_false n7),if_neg (of_decide_eq_false n6),if_neg (of_decide_eq_false n5),if_neg (of_decide_eq_false n4),if_pos h3];(try dsimp only);unfold rsP;rw [if_pos q]) rfl (.inl rfl)
 ·have h2:=of_decide_eq_true h2
  have hz:=hv.zt
  refine⟨fun g1=>⟨fun g2=>?_,fun g2=>?_⟩,fun g1=>?_⟩
  ·rw [List.length_map,w64_id (by simp only [nI];omega) (by simp only [nI];omega)]at g2
   have g2:¬ a≤(p.told.length:Int)-1:=by simpa using g2
   have g1:=of_decide_eq_true g1
   exact fin_do (q:=zP) (e:=530) (by unfold doP0;rw [if_neg (of_decide_eq_false n7),if_neg (of_decide_eq_false n6),if_neg (of_decide_eq_false n5),if_neg (of_decide_eq_false n4),if_neg (of_decide_eq_false n3),if_pos h2,if_pos g1,List.getElem?_eq_none (by omega)]) rfl (.inr rfl)
  ·rw [List.length_map,w64_id (by simp only [nI];omega) (by simp only [nI];omega)]at g2
   have g2:a≤(p.told.length:Int)-1:=by simpa using g2
   have g1:=of_decide_eq_true g1
   obtain⟨l,hc⟩:∃ c,p.told[a.toNat]?=some c:=⟨_,List.getElem?_eq_getElem (by omega)⟩
   refine⟨g1,dLe l,(by rw [List.getElem?_map,hc];rfl),?_⟩
   refine⟨.tup [dRp (lrnP p.r0 l).1,iv (lrnP p.r0 l).2],[],.inl ⟨rfl,conLrn,rfl,_,⟨0,E0,l,hvu,(by rw [← har];rfl),(by rw [heu])⟩,rfl⟩,fun q=>⟨fun q2=>?_,fun q2=>?_⟩,fun q=>?_⟩
   ·have q2:(lrnP p.r0 l).2≠0:=by simpa using (show((lrnP p.r0 l).2 != 0)=true from q2)
    exact fin_do (q:=zP) (e:=(lrnP p.r0 l).2) (by unfold doP0;rw [if_neg (of_decide_eq_false n7),if_neg (of_decide_eq_false n6),if_neg (of_decide_eq_false n5),if_neg (of_decide_eq_false n4),if_neg (of_decide_eq_false n3),if_pos h2,if_pos g1,hc];(try dsimp only);unfold rsP;rw [if_neg q2]) rfl (.inr rfl)
   ·have q:(lrnP p.r0 l).2≠0:=by simpa using (show(!((lrnP p.r0 l).2 == 0))=true from q)
    have q2:(lrnP p.r0 l).2=0:=by simpa using (show((lrnP p.r0 l).2 != 0)=false from q2)
    exact absurd q2 q
   have q:(lrnP p.r0 l).2=0:=by simpa using (show(!((lrnP p.r0 l).2 == 0))=false from q)
   exact fin_do (q:={ p with r0:=(lrnP p.r0 l).1 }) (e:=0) (by unfold doP0;rw [if_neg (of_decide_eq_false n7),if_neg (of_decide_eq_false n6),if_neg (of_decide_eq_false n5),if_neg (of_decide_eq_false n4),if_neg (of_decide_eq_false n3),if_pos h2,if_pos g1,hc];(try dsimp only);unfold rsP;rw [if_pos q]) rfl (.inl rfl)
  have g1:=of_decide_eq_false g1
  exact fin_do (q:=zP) (e:=530) (by unfold doP0;rw [if_neg (of_decide_eq_false n7),if_neg (of_decide_eq_false n6),if_neg (of_decide_eq_false n5),if_neg (of_decide_eq_false n4),if_neg (of_decide_eq_false n3),if_pos h2,if_neg g1]) rfl (.inr rfl)
 ·have h1:=of_decide_eq_true h1
  refine⟨.tup [dRp (decP p.r0 a b).1,iv (decP p.r0 a b).2],[],.inl ⟨rfl,conDec,rfl,_,⟨0,E0,a,b,hvu,(by rw [← har];rfl),(by rw [heu])⟩,rfl⟩,fun q=>⟨fun q2=>?_,fun q2=>?_⟩,fun q=>?_⟩
  ·have q2:(decP p.r0 a b).2≠0:=by simpa using (show((decP p.r0 a b).2 != 0)=true from q2)
   exact fin_do (q:=zP) (e:=(decP p.r0 a b).2) (by unfold doP0;rw [if_neg (of_decide_eq_false n7),if_neg (of_decide_eq_false n6),if_neg (of_decide_eq_false n5),if_neg (of_decide_eq_false n4),if_neg (of_decide_eq_false n3),if_neg (of_decide_eq_false n2),if_pos h1];(try dsimp only);unfold rsP;rw [if_neg q2]) rfl (.inr rfl)
  ·have q:(decP p.r0 a b).2≠0:=by simpa using (show(!((decP p.r0 a b).2 == 0))=true from q)
   have q2:(decP p.r0 a b).2=0:=by simpa using (show((decP p.r0 a b).2 != 0)=false from q2)
   exact absurd q2 q
  have q:(decP p.r0 a b).2=0:=by simpa using (show(!((decP p.r0 a b).2 == 0))=false from q)
  exact fin_do (q:={ p with r0:=(decP p.r0 a b).1 }) (e:=0) (by unfold doP0;rw [if_neg (of_decide_eq_false n7),if_neg (of_decide_eq_false n6),if_neg (of_decide_eq_false n5),if_neg (of_decide_eq_false n4),if_neg (of_decide_eq_false n3),if_neg (of_decide_eq_false n2),if_pos h1];(try dsimp only);unfold rsP;rw [if_pos q]) rfl (.inl rfl)
 exact fin_do (q:=zP) (e:=530) (by unfold doP0;rw [if_neg (of_decide_eq_false n7),if_neg (of_decide_eq_false n6),if_neg (of_decide_eq_false n5),if_neg (of_decide_eq_false n4),if_neg (of_decide_eq_false n3),if_neg (of_decide_eq_false n2),if_neg (of_decide_eq_false n1)]) rfl (.inr rfl)
def doP1(p:Pq)(E:List En)(k a b:Int):Pq×Int :=
 if k=7 then(if p.s1≤a∧a≤(E.length:Int)then({ p with r1:=ofE 1 (E.take a.toNat) },0)else(zP,530))
 else if k=6 then(if 0≤a then(match p.r1.ca[a.toNat]? with
  | some c=>if synB E p.s1 (hitC c)=true then({ p with k1:=p.k1++[c] },0)else(zP,530)
  | none=>(zP,530))else(zP,530))
 else if k=5 then(if 0≤a then(match p.r1.le[a.toNat]? with
  | some l=>if synB E p.s1 (hitL l)=true then({ p with told:=p.told++[l] },0)else(zP,530)
  | none=>(zP,530))else(zP,530))
 else if k=4 then({ p with s1:=(p.r1.od.map bv).length },0)
 else if k=3 then rsP (callP p.r1 ⟨a,b⟩) fun r=>{ p with r1:=r }
 else if k=2 then(if 0≤a then(match p.told[a.toNat]? with
  | some l=>rsP (lrnP p.r1 l) fun r=>{ p with r1:=r }
  | none=>(zP,530))else(zP,530))
 else if k=1 then rsP (decP p.r1 a b) fun r=>{ p with r1:=r }
 else(zP,530)
theorem do1_ok(p:Pq)(E0 E1:List En)(hv:VP p E0 E1)(k a b:Int)(h:Heap):CallSd PP 22 [dPq p,.agg [iv k,ik 1,iv a,iv b]] h (.ret (.tup [dPq (doP1 p E1 k a b).1,iv (doP1 p E1 k a b).2])) h:=by
 refine con_of (E:=Z.E0) (Γ:=gDo) (C:=cDo) (l:=lDo) (.tup [kPq,kI]) bDo_ok named_do rfl rfl rfl (to_wp ?_) h
 rw [t_do1]
 have hvu:=hv.v1
 have heu:=hv.e1
 have hyu:=hv.y1
 have hle:=leE_len E1
 have hce:=caE_len E1
 have hsm:=hvu.sm
 have hel:p.r1.le.length=(leE E1).length:=by rw [heu];rfl
 have hec:p.r1.ca.length=(caE E1).length:=by rw [heu];rfl
 have heo:nI (p.r1.od.map bv).length=(E1.length:Int):=by
  rw [List.length_map,heu];show(((odE E1).length:Nat):Int)=_;rw [odE_len]
 have har:dRp p.r1=dRp (ofE 1 E1):=by rw [heu]
 refine⟨.tup [],[dSt p (iv 1)],.inr ⟨conVld,rfl,_,_,_,_,rfl,rfl,⟨p,1,E0,E1,hv,rfl,rfl,rfl,rfl⟩,rfl⟩,fun h7=>?_,fun n7=>⟨fun h6=>?_,fun n6=>⟨fun h5=>?_,fun n5=>⟨fun h4=>?_,fun n4=>⟨fun h3=>?_,fun n3=>⟨fun h2=>?_,fun n2=>⟨fun h1=>?_,fun n1=>?_⟩⟩⟩⟩⟩⟩⟩
 ·have h7:=of_decide_eq_true h7
  refine⟨fun g1=>⟨fun g2=>?_,fun g2=>?_⟩,fun g1=>?_⟩
  ·rw [heo]at g2
   have g2:¬ a≤(E1.length:Int):=by simpa using g2
   exact fin_do (q:=zP) (e:=530) (by unfold doP1;rw [if_pos h7,if_neg (fun h=>g2 h.2)]) rfl (.inr rfl)
  ·rw [heo]at g2
   have g1:=of_decide_eq_true g1
   have g2:a≤(E1.length:Int):=by simpa using g2
   have hb:(rcsE E1).length=E1.length:=by unfold rcsE;rw [List.length_map]
   refine⟨.tup [sl 57 ((rcsE E1).map recD),iv 0],[],.inl ⟨rfl,conRcs,rfl,_,⟨1,E1,hvu,(by rw [← har];rfl),rfl⟩,rfl⟩,(fun h=>nomatch h),fun _=>⟨?_,.tup [dRp (ofE 1 (E1.take a.toNat)),iv 0],[],.inl ⟨rfl,conLoa,rfl,_,⟨1,E1.take a.toNat,ve_take hvu (by omega),?_,rfl⟩,rfl⟩,(fun h=>nomatch h),fun _=>?_⟩⟩
   ·refine decide_eq_true ⟨Int.le_refl _,by omega,?_⟩
    show a≤nI ((rcsE E1).map recD).length
    rw [List.length_map,hb];exact g2
   ·show [iv 1,sl 57 (List.take (Int.toNat a) ((rcsE E1).map recD))]=_
    unfold rcsE
    rw [List.map_take,List.map_take]
   exact fin_do (q:={ p with r1:=ofE 1 (E1.take a.toNat) }) (e:=0) (by unfold doP1;rw [if_pos h7,if_pos ⟨g1,g2⟩]) rfl (.inl rfl)
  have g1:=of_decide_eq_false g1
  exact fin_do (q:=zP) (e:=530) (by unfold doP1;rw [if_pos h7,if_neg (fun h=>g1 h.1)]) rfl (.inr rfl)
 ·have h6:=of_decide_eq_true h6
  refine⟨fun g1=>⟨fun g2=>?_,fun g2=>?_⟩,fun g1=>?_⟩
  ·rw [List.length_map,w64_id (by simp only [nI];omega) (by simp only [nI];omega)]at g2
   have g2:¬ a≤(p.r1.ca.length:Int)-1:=by simpa using g2
   have g1:=of_decide_eq_true g1
   exact fin_do (q:=zP) (e:=530) (by unfold doP1;rw [if_neg (of_decide_eq_false n7),if_pos h6,if_pos g1,List.getElem?_eq_none (by omega)]) rfl (.inr rfl)
  ·rw [List.length_map,w64_id (by simp only [nI];omega) (by simp only [nI];omega)]at g2
   have g2:a≤(p.r1.ca.length:Int)-1:=by simpa using g2
   have g1:=of_decide_eq_true g1
   obtain⟨c,hc⟩:∃ c,p.r1.ca[a.toNat]?=some c:=⟨_,List.getElem?_eq_getElem (by omega)⟩
   have hg:(p.r1.ca.map dCa)[a.toNat]?=some (dCa c):=by rw [List.getElem?_map,hc];rfl
   refine⟨g1,_,hg,bv (synB E1 p.s1 (hitC c)),[dSt p (iv 1)],.inr ⟨conSy,rfl,_,_,_,_,rfl,rfl,⟨p,1,1,E1,p.s1,fCa c,_,rfl,rfl,⟨hvu.sm,.inr ⟨rfl,heu,rfl⟩⟩,.ca _,rfl,rfl⟩,rfl⟩,fun q=>?_,fun q=>⟨need4 _,g1,_,hg,?_⟩⟩
   ·have q:synB E1 p.s1 (hitC c)=false:=by simpa using (show(!synB E1 p.s1 (hitC c))=true from q)
    exact fin_do (q:=zP) (e:=530) (by unfold doP1;rw [if_neg (of_decide_eq_false n7),if_pos h6,if_pos g1,hc];simp [q]) rfl (.inr rfl)
   have q:synB E1 p.s1 (hitC c)=true:=by simpa using (show(!synB E1 p.s1 (hitC c))=false from q)
   have hz:=hv.z1
   rw [take_nI]
   refine⟨room (by rw [List.length_map];exact hz),?_⟩
   rw [show List.map dCa p.k1++[D.agg [iv (D.int (D.cell (dCa c) 0)),iv (D.int (D.cell (dCa c) 1))]]=List.map dCa (p.k1++[c]) from by rw [List.map_append];rfl]
   exact fin_do (q:={ p with k1:=p.k1++[c] }) (e:=0) (by unfold doP1;rw [if_neg (of_decide_eq_false n7),if_pos h6,if_pos g1,hc];simp [q]) rfl (.inl rfl)
  have g1:=of_decide_eq_false g1
  exact fin_do (q:=zP) (e:=530) (by unfold doP1;rw [if_neg (of_decide_eq_false n7),if_pos h6,if_neg g1]) rfl (.inr rfl)
 ·have h5:=of_decide_eq_true h5
  refine⟨fun g1=>⟨fun g2=>?_,fun g2=>?_⟩,fun g1=>?_⟩
  ·rw [List.length_map,w64_id (by simp only [nI];omega) (by simp only [nI];omega)]at g2
   have g2:¬ a≤(p.r1.le.length:Int)-1:=by simpa using g2
   have g1:=of_decide_eq_true g1
   exact fin_do (q:=zP) (e:=530) (by unfold doP1;rw [if_neg (of_decide_eq_false n7),if_neg (of_decide_eq_false n6),if_pos h5,if_pos g1,List.getElem?_eq_none (by omega)]) rfl (.inr rfl)
  ·rw [List.length_map,w64_id (by simp only [nI];omega) (by simp only [nI];omega)]at g2
   have g2:a≤(p.r1.le.length:Int)-1:=by simpa using g2
   have g1:=of_decide_eq_true g1
   obtain⟨c,hc⟩:∃ c,p.r1.le[a.toNat]?=some c:=⟨_,List.getElem?_eq_getElem (by omega)⟩
   have hg:(p.r1.le.map dLe)[a.toNat]?=some (dLe c):=by rw [List.getElem?_map,hc];rfl
   refine⟨g1,_,hg,bv (synB E1 p.s1 (hitL c)),[dSt p (iv 1)],.inr ⟨conSy,rfl,_,_,_,_,rfl,rfl,⟨p,1,1,E1,p.s1,fLe c,_,rfl,rfl,⟨hvu.sm,.inr ⟨rfl,heu,rfl⟩⟩,.le _,rfl,rfl⟩,rfl⟩,fun q=>?_,fun q=>⟨need4 _,g1,_,hg,?_⟩⟩
   ·have q:synB E1 p.s1 (hitL c)=false:=by simpa using (show(!synB E1 p.s1 (hitL c))=true from q)
    exact fin_do (q:=zP) (e:=530) (by unfold doP1;rw [if_neg (of_decide_eq_false n7),if_neg (of_decide_eq_false n6),if_pos h5,if_pos g1,hc];simp [q]) rfl (.inr rfl)
   have q:synB E1 p.s1 (hitL c)=true:=by simpa using (show(!synB E1 p.s1 (hitL c))=false from q)
   have hz:=hv.zt
   rw [take_nI]
   refine⟨room (by rw [List.length_map];exact hz),?_⟩
   rw [show List.map dLe p.told++[D.agg [iv (D.int (D.cell (dLe c) 0)),iv (D.int (D.cell (dLe c) 1)),iv (D.int (D.cell (dLe c) 2))]]=List.map dLe (p.told++[c]) from by rw [List.map_append];rfl]
   exact fin_do (q:={ p with told:=p.told++[c] }) (e:=0) (by unfold doP1;rw [if_neg (of_decide_eq_false n7),if_neg (of_decide_eq_false n6),if_pos h5,if_pos g1,hc];simp [q]) rfl (.inl rfl)
  have g1:=of_decide_eq_false g1
  exact fin_do (q:=zP) (e:=530) (by unfold doP1;rw [if_neg (of_decide_eq_false n7),if_neg (of_decide_eq_false n6),if_pos h5,if_neg g1]) rfl (.inr rfl)
 ·have h4:=of_decide_eq_true h4
  exact fin_do (q:={ p with s1:=(p.r1.od.map bv).length }) (e:=0) (by unfold doP1;rw [if_neg (of_decide_eq_false n7),if_neg (of_decide_eq_false n6),if_neg (of_decide_eq_false n5),if_pos h4]) rfl (.inl rfl)
 ·have h3:=of_decide_eq_true h3
  refine⟨.tup [dRp (callP p.r1 ⟨a,b⟩).1,iv (callP p.r1 ⟨a,b⟩).2],[],.inl ⟨rfl,conCall,rfl,_,⟨1,E1,a,b,hvu,(by rw [← har];rfl),(by rw [heu])⟩,rfl⟩,fun q=>⟨fun q2=>?_,fun q2=>?_⟩,fun q=>?_⟩
  ·have q2:(callP p.r1 ⟨a,b⟩).2≠0:=by simpa using (show((callP p.r1 ⟨a,b⟩).2 != 0)=true from q2)
   exact fin_do (q:=zP) (e:=(callP p.r1 ⟨a,b⟩).2) (by unfold doP1;rw [if_neg (of_decide_eq_false n7),if_neg (of_decide_eq_false n6),if_neg (of_decide_eq_false n5),if_neg (of_decide_eq_false n4),if_pos h3];(try dsimp only);unfold rsP;rw [if_neg q2]) rfl (.inr rfl)
  ·have q:(callP p.r1 ⟨a,b⟩).2≠0:=by simpa using (show(!((callP p.r1 ⟨a,b⟩).2 == 0))=true from q)
   have q2:(callP p.r1 ⟨a,b⟩).2=0:=by simpa using (show((callP p.r1 ⟨a,b⟩).2 != 0)=false from q2)
   exact absurd q2 q
  have q:(callP p.r1 ⟨a,b⟩).2=0:=by simpa using (show(!((callP p.r1 ⟨a,b⟩).2 == 0))=false from q)
  exact fin_do (q:={ p with r1:=(callP p.r1 ⟨a,b⟩).1 }) (e:=0) (by unfold doP1;rw [if_neg (of_decide_eq_false n7),if_neg (of_decide_eq_false n6),if_neg (of_decide_eq_false n5),if_neg (of_decide_eq_false n4),if_pos h3];(try dsimp only);unfold rsP;rw [if_pos q]) rfl (.inl rfl)
 ·have h2:=of_decide_eq_true h2
  have hz:=hv.zt
  refine⟨fun g1=>⟨fun g2=>?_,fun g2=>?_⟩,fun g1=>?_⟩
  ·rw [List.length_map,w64_id (by simp only [nI];omega) (by simp only [nI];omega)]at g2
   have g2:¬ a≤(p.told.length:Int)-1:=by simpa using g2
   have g1:=of_decide_eq_true g1
   exact fin_do (q:=zP) (e:=530) (by unfold doP1;rw [if_neg (of_decide_eq_false n7),if_neg (of_decide_eq_false n6),if_neg (of_decide_eq_false n5),if_neg (of_decide_eq_false n4),if_neg (of_decide_eq_false n3),if_pos h2,if_pos g1,List.getElem?_eq_none (by omega)]) rfl (.inr rfl)
  ·rw [List.length_map,w64_id (by simp only [nI];omega) (by simp only [nI];omega)]at g2
   have g2:a≤(p.told.length:Int)-1:=by simpa using g2
   have g1:=of_decide_eq_true g1
   obtain⟨l,hc⟩:∃ c,p.told[a.toNat]?=some c:=⟨_,List.getElem?_eq_getElem (by omega)⟩
   refine⟨g1,dLe l,(by rw [List.getElem?_map,hc];rfl),?_⟩
   refine⟨.tup [dRp (lrnP p.r1 l).1,iv (lrnP p.r1 l).2],[],.inl ⟨rfl,conLrn,rfl,_,⟨1,E1,l,hvu,(by rw [← har];rfl),(by rw [heu])⟩,rfl⟩,fun q=>⟨fun q2=>?_,fun q2=>?_⟩,fun q=>?_⟩
   ·have q2:(lrnP p.r1 l).2≠0:=by simpa using (show((lrnP p.r1 l).2 != 0)=true from q2)
    exact fin_do (q:=zP) (e:=(lrnP p.r1 l).2) (by unfold doP1;rw [if_neg (of_decide_eq_false n7),if_neg (of_decide_eq_false n6),if_neg (of_decide_eq_false n5),if_neg (of_decide_eq_false n4),if_neg (of_decide_eq_false n3),if_pos h2,if_pos g1,hc];(try dsimp only);unfold rsP;rw [if_neg q2]) rfl (.inr rfl)
   ·have q:(lrnP p.r1 l).2≠0:=by simpa using (show(!((lrnP p.r1 l).2 == 0))=true from q)
    have q2:(lrnP p.r1 l).2=0:=by simpa using (show((lrnP p.r1 l).2 != 0)=false from q2)
    exact absurd q2 q
   have q:(lrnP p.r1 l).2=0:=by simpa using (show(!((lrnP p.r1 l).2 == 0))=false from q)
   exact fin_do (q:={ p with r1:=(lrnP p.r1 l).1 }) (e:=0) (by unfold doP1;rw [if_neg (of_decide_eq_false n7),if_neg (of_decide_eq_false n6),if_neg (of_decide_eq_false n5),if_neg (of_decide_eq_false n4),if_neg (of_decide_eq_false n3),if_pos h2,if_pos g1,hc];(try dsimp only);unfold rsP;rw [if_pos q]) rfl (.inl rfl)
  have g1:=of_decide_eq_false g1
  exact fin_do (q:=zP) (e:=530) (by unfold doP1;rw [if_neg (of_decide_eq_false n7),if_neg (of_decide_eq_false n6),if_neg (of_decide_eq_false n5),if_neg (of_decide_eq_false n4),if_neg (of_decide_eq_false n3),if_pos h2,if_neg g1]) rfl (.inr rfl)
 ·have h1:=of_decide_eq_true h1
  refine⟨.tup [dRp (decP p.r1 a b).1,iv (decP p.r1 a b).2],[],.inl ⟨rfl,conDec,rfl,_,⟨1,E1,a,b,hvu,(by rw [← har];rfl),(by rw [heu])⟩,rfl⟩,fun q=>⟨fun q2=>?_,fun q2=>?_⟩,fun q=>?_⟩
  ·have q2:(decP p.r1 a b).2≠0:=by simpa using (show((decP p.r1 a b).2 != 0)=true from q2)
   exact fin_do (q:=zP) (e:=(decP p.r1 a b).2) (by unfold doP1;rw [if_neg (of_decide_eq_false n7),if_neg (of_decide_eq_false n6),if_neg (of_decide_eq_false n5),if_neg (of_decide_eq_false n4),if_neg (of_decide_eq_false n3),if_neg (of_decide_eq_false n2),if_pos h1];(try dsimp only);unfold rsP;rw [if_neg q2]) rfl (.inr rfl)
  ·have q:(decP p.r1 a b).2≠0:=by simpa using (show(!((decP p.r1 a b).2 == 0))=true from q)
   have q2:(decP p.r1 a b).2=0:=by simpa using (show((decP p.r1 a b).2 != 0)=false from q2)
   exact absurd q2 q
  have q:(decP p.r1 a b).2=0:=by simpa using (show(!((decP p.r1 a b).2 == 0))=false from q)
  exact fin_do (q:={ p with r1:=(decP p.r1 a b).1 }) (e:=0) (by unfold doP1;rw [if_neg (of_decide_eq_false n7),if_neg (of_decide_eq_false n6),if_neg (of_decide_eq_false n5),if_neg (of_decide_eq_false n4),if_neg (of_decide_eq_false n3),if_neg (of_decide_eq_false n2),if_pos h1];(try dsimp only);unfold rsP;rw [if_pos q]) rfl (.inl rfl)
 exact fin_do (q:=zP) (e:=530) (by unfold doP1;rw [if_neg (of_decide_eq_false n7),if_neg (of_decide_eq_false n6),if_neg (of_decide_eq_false n5),if_neg (of_decide_eq_false n4),if_neg (of_decide_eq_false n3),if_neg (of_decide_eq_false n2),if_neg (of_decide_eq_false n1)]) rfl (.inr rfl)
theorem dou_ok(p:Pq)(E0 E1:List En)(hv:VP p E0 E1)(k u a b:Int)(hu:¬ (0≤u∧u≤1))(h:Heap):CallSd PP 22 [dPq p,.agg [iv k,iv u,iv a,iv b]] h (.ret (.tup [dPq zP,iv 530])) h:=by
 refine con_of (E:=Z.E0) (Γ:=gDo) (C:=cDo) (l:=[22,39,40,49,12]) (.tup [kPq,kI]) bDo_ok (named_all (List.all_eq_true.1 (by kernel_rfl:[22,39,40,49,12].all plainB=true))) rfl rfl rfl (to_wp ?_) h
 rw [t_dou]
 refine⟨.tup [],[dSt p (iv u)],.inr ⟨conVld,rfl,_,_,_,_,rfl,rfl,⟨p,u,E0,E1,hv,rfl,rfl,rfl,rfl⟩,rfl⟩,?_⟩
 have fin:Res (.tup [kPq,kI]) (.tup [dPq zP,iv 530]) (.ret (.tup [.agg [ik 0,.sl true 64 [] .nil,.sl true 66 [] .nil,.sl true 4 [] .nil,ik 0,.sl true 64 [] .nil,.sl true 66 [] .nil,.sl true 4 [] .nil,ik 0,ik 0,.sl true 64 [] .nil,.sl true 66 [] .nil,.sl true 66 [] .nil],ik 530])):=fin_do (x:=(zP,530)) rfl rfl (.inr rfl)
 have in_:∀ {X Y Z:M Rs},(!decide (u≤(1:Int)))=false→decide ((0:Int)≤u)=true→False:=fun h1 h2=>hu ⟨of_decide_eq_true h2,by simpa using h1⟩
 repeat' first|exact fin|(refine⟨fun _=>?_,fun _=>?_⟩)|(rename_i h1 h2;exact absurd ⟨of_decide_eq_true h1,by simpa using h2⟩ hu)
def doP(p:Pq)(E0 E1:List En)(k u a b:Int):Pq×Int:=if u=0 then doP0 p E0 k a b else if u=1 then doP1 p E1 k a b else(zP,530)
theorem do_den(p:Pq)(k u a b:Int):∀ (j:Nat) d e,([dPq p,.agg [iv k,iv u,iv a,iv b]]:List D)[j]?=some d→([dPq p,.agg [iv k,ik u,iv a,iv b]]:List D)[j]?=some e→∀ {I:Gh}{α:Al}{x:Value},Den (tyOf PP) I α d x→Den (tyOf PP) I α e x:=fun j d e h1 h2 {I α x} hd=>by
 match j,h1,h2 with
 | 0,h1,h2=>cases h1;cases h2;exact hd
 | 1,h1,h2 =>
  cases h1;cases h2
  cases hd with
  | agg hl hd =>
   refine .agg hl fun j d x k1 k2=>?_
   match j,k1 with
   | 0,k1=>obtain rfl:=Option.some.inj k1;exact hd 0 _ x rfl k2
   | 1,k1=>obtain rfl:=Option.some.inj k1;exact den_k (hd 1 _ x rfl k2)
   | 2,k1=>obtain rfl:=Option.some.inj k1;exact hd 2 _ x rfl k2
   | 3,k1=>obtain rfl:=Option.some.inj k1;exact hd 3 _ x rfl k2
   | j+4,k1=>simp at k1
 | j+2,h1,h2=>simp at h1
theorem do_ok(p:Pq)(E0 E1:List En)(hv:VP p E0 E1)(k u a b:Int)(h:Heap):CallSd PP 22 [dPq p,.agg [iv k,iv u,iv a,iv b]] h (.ret (.tup [dPq (doP p E0 E1 k u a b).1,iv (doP p E0 E1 k u a b).2])) h:=by
 unfold doP
 by_cases h0:u=0
 ·subst h0
  rw [if_pos rfl]
  exact CallSd.sub (a:=[dPq p,.agg [iv k,ik 0,iv a,iv b]]) rfl (do_den p k 0 a b) (do0_ok p E0 E1 hv k a b h)
 rw [if_neg h0]
 by_cases h1:u=1
 ·subst h1
  rw [if_pos rfl]
  exact CallSd.sub (a:=[dPq p,.agg [iv k,ik 1,iv a,iv b]]) rfl (do_den p k 1 a b) (do1_ok p E0 E1 hv k a b h)
 rw [if_neg h1]
 exact dou_ok p E0 E1 hv k u a b (by omega) h
abbrev kDd:SK0:=.row [.i .i64,.i .i64,.i .i64,.i .i64]
def conDo:Con PP:=⟨22,[kPq,kDd],.tup [kPq,kI],fun args d=>∃ p E0 E1 k u a b,VP p E0 E1∧args=[dPq p,.agg [iv k,iv u,iv a,iv b]]∧d=.tup [dPq (doP p E0 E1 k u a b).1,iv (doP p E0 E1 k u a b).2],fun args d ⟨p,E0,E1,k,u,a,b,hv,ha,hd⟩ h=>by subst ha;subst hd;exact do_ok p E0 E1 hv k u a b h⟩
end Z
namespace Z
structure Sg where
 p:Pq
 d0:Di
 d1:Di
def diL(d:Di):List D:=[.sl false 57 (d.se.map dSe) .non,.sl false 164 (d.pe.map dWr) .non,iv d.left,bv d.stop]
def pqL(p:Pq):List D:=[iv p.r0.self,.sl false 64 (p.r0.le.map dLe) .non,.sl false 66 (p.r0.ca.map dCa) .non,.sl false 4 (p.r0.od.map bv) .non,iv p.r1.self,.sl false 64 (p.r1.le.map dLe) .non,.sl false 66 (p.r1.ca.map dCa) .non,.sl false 4 (p.r1.od.map bv) .non,iv p.s0,iv p.s1,.sl false 64 (p.told.map dLe) .non,.sl false 66 (p.k0.map dCa) .non,.sl false 66 (p.k1.map dCa) .non]
def dSg(s:Sg):D:=.agg (pqL s.p++(diL s.d0++diL s.d1))
def kSg:SK0:=.row [.i .i64,.sl 64,.sl 66,.sl 4,.i .i64,.sl 64,.sl 66,.sl 4,.i .i64,.i .i64,.sl 64,.sl 66,.sl 66,.sl 57,.sl 164,.i .i64,.b,.sl 57,.sl 164,.i .i64,.b]
def rwWr:List CRow:=[⟨33,[kDi],.one kDi⟩,⟨34,[kDi],.tup [kJo,kI]⟩,⟨35,[kJo,.one (.sl 5)],.tup [kJo,kI]⟩,⟨36,[kDi,kI],.tup [kDi,kI]⟩,⟨37,[kJo,kDi],.tup [kJo,kDi,kI]⟩]
def nWr:List (Nat×BK):=[(0,.each 45 1 [.el kSg]),(1,.each 39 1 [.el kDi]),(2,.each 98 1 [.el kJo])]
def pWr(u:Int):List (Tmp×SK):=[(0,.fix (.p 0 0 0)),(1,.fix (ik u)),(3,sI),(9,.fix (.p 1 0 0)),(10,.fix (.p 2 0 0))]
def gWr(u:Int):LCfg:=⟨88,3,3,⟨pWr u++[(40,.el (.one (.sl 57))),(41,sI),(42,sI)],nWr⟩,[(.exit 0,⟨pWr u,nWr⟩)]⟩
noncomputable def cWr(u:Int):Cf:=cf [33,34,35,36,37] [⟨18,0,6,(18,0),gWr u⟩] rwWr
noncomputable def eWr(u:Int):LId→LSt→M Rd1:=fun id L=>(gWr u).round PP (kitF PP (cWr u) (callT PP (cWr u) []) yh0 18) (lcode 18 0) L
abbrev kWr:List SK0:=[kI,.one (.sl 57),kI]
theorem rd_wr0(s:Sg)(j:Jo)(d:Di)(l:List D)(w n i:Int):eWr 0 (18,0) ⟨[.p 0 0 0,ik 0,iv w,.p 1 0 0,.p 2 0 0,sl 57 l,iv n,iv i],[.arr true 45 1 [dSg s],.arr true 39 1 [dDi d],.arr true 98 1 [dJo j]],[]⟩=(M.br (decide (i<n)) (M.get l i fun d0=>M.call 35 [dJo j,sl 5 (D.items d0)] [] fun d1 o1=>M.br (D.int (List.getD (D.parts d1) 1 D.any) != (0:Int)) (M.bad 151) (M.pure (none,(ls [D.p 0 0 0,ik (0:Int),iv w,D.p 1 0 0,D.p 2 0 0,sl 57 l,iv n,iv (w64 (i+(1:Int)))] [Blk.arr true 45 1 [dSg s],Blk.arr true 39 1 [dDi d],Blk.arr true 98 1 [D.agg [D.sl false 57 (D.items (D.cell (List.getD (D.parts d1) 0 D.any) 0)) Tok.non,iv (D.int (D.cell (List.getD (D.parts d1) 0 D.any) 1)),iv (D.int (D.cell (List.getD (D.parts d1) 0 D.any) 2))]]])))) (M.pure (some 0,(ls [D.p 0 0 0,ik (0:Int),iv w,D.p 1 0 0,D.p 2 0 0] [Blk.arr true 45 1 [dSg s],Blk.arr true 39 1 [dDi d],Blk.arr true 98 1 [dJo j]])))):=by kernel_rfl
theorem rd_wr1(s:Sg)(j:Jo)(d:Di)(l:List D)(w n i:Int):eWr 1 (18,0) ⟨[.p 0 0 0,ik 1,iv w,.p 1 0 0,.p 2 0 0,sl 57 l,iv n,iv i],[.arr true 45 1 [dSg s],.arr true 39 1 [dDi d],.arr true 98 1 [dJo j]],[]⟩=(M.br (decide (i<n)) (M.get l i fun d0=>M.call 35 [dJo j,sl 5 (D.items d0)] [] fun d1 o1=>M.br (D.int (List.getD (D.parts d1) 1 D.any) != (0:Int)) (M.bad 151) (M.pure (none,(ls [D.p 0 0 0,ik (1:Int),iv w,D.p 1 0 0,D.p 2 0 0,sl 57 l,iv n,iv (w64 (i+(1:Int)))] [Blk.arr true 45 1 [dSg s],Blk.arr true 39 1 [dDi d],Blk.arr true 98 1 [D.agg [D.sl false 57 (D.items (D.cell (List.getD (D.parts d1) 0 D.any) 0)) Tok.non,iv (D.int (D.cell (List.getD (D.parts d1) 0 D.any) 1)),iv (D.int (D.cell (List.getD (D.parts d1) 0 D.any) 2))]]])))) (M.pure (some 0,(ls [D.p 0 0 0,ik (1:Int),iv w,D.p 1 0 0,D.p 2 0 0] [Blk.arr true 45 1 [dSg s],Blk.arr true 39 1 [dDi d],Blk.arr true 98 1 [dJo j]])))):=by kernel_rfl
--W
def wrF0(x d4:D):D:=D.agg [iv (D.int (D.cell x 0)),sl 64 (D.items (D.cell x 1)),sl 66 (D.items (D.cell x 2)),sl 4 (D.items (D.cell x 3)),iv (D.int (D.cell x 4)),sl 64 (D.items (D.cell x 5)),sl 66 (D.items (D.cell x 6)),sl 4 (D.items (D.cell x 7)),iv (D.int (D.cell x 8)),iv (D.int (D.cell x 9)),sl 64 (D.items (D.cell x 10)),sl 66 (D.items (D.cell x 11)),sl 66 (D.items (D.cell x 12)),D.sl false 57 (D.items (D.cell (List.getD (D.parts d4) 1 D.any) 0)) Tok.non,D.sl false 164 (D.items (D.cell (List.getD (D.parts d4) 1 D.any) 1)) Tok.non,iv (D.int (D.cell (List.getD (D.parts d4) 1 D.any) 2)),bv (D.bool (D.cell (List.getD (D.parts d4) 1 D.any) 3)),sl 57 (D.items (D.cell x 17)),sl 164 (D.items (D.cell x 18)),iv (D.int (D.cell x 19)),bv (D.bool (D.cell x 20))]
def wrF1(x d4:D):D:=D.agg [iv (D.int (D.cell x 0)),sl 64 (D.items (D.cell x 1)),sl 66 (D.items (D.cell x 2)),sl 4 (D.items (D.cell x 3)),iv (D.int (D.cell x 4)),sl 64 (D.items (D.cell x 5)),sl 66 (D.items (D.cell x 6)),sl 4 (D.items (D.cell x 7)),iv (D.int (D.cell x 8)),iv (D.int (D.cell x 9)),sl 64 (D.items (D.cell x 10)),sl 66 (D.items (D.cell x 11)),sl 66 (D.items (D.cell x 12)),sl 57 (D.items (D.cell x 13)),sl 164 (D.items (D.cell x 14)),iv (D.int (D.cell x 15)),bv (D.bool (D.cell x 16)),D.sl false 57 (D.items (D.cell (List.getD (D.parts d4) 1 D.any) 0)) Tok.non,D.sl false 164 (D.items (D.cell (List.getD (D.parts d4) 1 D.any) 1)) Tok.non,iv (D.int (D.cell (List.getD (D.parts d4) 1 D.any) 2)),bv (D.bool (D.cell (List.getD (D.parts d4) 1 D.any) 3))]
def wrT(u:Int)(s:Sg)(dk:Di)(f:D→D→D)(l:List (List D))(w:Int):M (Rs×Blk):=(M.call 33 [dDi dk] [] fun d0 o0=>M.call 34 [D.agg [sl 57 (D.items (D.cell d0 0)),sl 164 (D.items (D.cell d0 1)),iv (D.int (D.cell d0 2)),bv (D.bool (D.cell d0 3))]] [] fun d1 o1=>M.br (D.int (List.getD (D.parts d1) 1 D.any) != (0:Int)) (M.pure (Rs.ret (bk false),Blk.arr true 45 1 [dSg s])) (M.br (decide (nI (List.length (D.items (D.cell (List.getD (D.parts d1) 0 D.any) 0)))>nI (List.length (List.map dSe l)))) (M.pure (Rs.ret (bk false),Blk.arr true 45 1 [dSg s])) (M.need (decide ((0:Int)≤nI (List.length (D.items (D.cell (List.getD (D.parts d1) 0 D.any) 0)))∧nI (List.length (D.items (D.cell (List.getD (D.parts d1) 0 D.any) 0)))≤nI (List.length (List.map dSe l))∧nI (List.length (List.map dSe l))≤nI (List.length (List.map dSe l)))) (M.loop (18,0) (ls [D.p 0 0 0,ik u,iv w,D.p 1 0 0,D.p 2 0 0,D.sl false 57 (List.drop (Int.toNat (nI (List.length (D.items (D.cell (List.getD (D.parts d1) 0 D.any) 0))))) (List.map dSe l)) Tok.non,iv (nI (List.length (List.drop (Int.toNat (nI (List.length (D.items (D.cell (List.getD (D.parts d1) 0 D.any) 0))))) (List.map dSe l)))),iv (0:Int)] [Blk.arr true 45 1 [dSg s],Blk.arr true 39 1 [D.agg [sl 57 (D.items (D.cell d0 0)),sl 164 (D.items (D.cell d0 1)),iv (D.int (D.cell d0 2)),bv (D.bool (D.cell d0 3))]],Blk.arr true 98 1 [D.agg [D.sl false 57 (D.items (D.cell (List.getD (D.parts d1) 0 D.any) 0)) Tok.non,iv (D.int (D.cell (List.getD (D.parts d1) 0 D.any) 1)),iv (D.int (D.cell (List.getD (D.parts d1) 0 D.any) 2))]]]) (fun L2=>M.br (decide (D.int (vd L2 2)≥(0:Int))) (M.call 36 [D.agg [sl 57 (D.items (D.cell (vb L2 1) 0)),sl 164 (D.items (D.cell (vb L2 1) 1)),iv (D.int (D.cell (vb L2 1) 2)),bv (D.bool (D.cell (vb L2 1) 3))],iv (D.int (vd L2 2))] [] fun d3 o3=>M.br (D.int (List.getD (D.parts d3) 1 D.any) != (0:Int)) (M.pure (Rs.ret (bk false),Blk.arr true 45 1 [etaK0 kSg (vb L2 0)])) (M.call 37 [D.agg [sl 57 (D.items (D.cell (vb L2 2) 0)),iv (D.int (D.cell (vb L2 2) 1)),iv (D.int (D.cell (vb L2 2) 2))],D.agg [D.sl false 57 (D.items (D.cell (List.getD (D.parts d3) 0 D.any) 0)) Tok.non,D.sl false 164 (D.items (D.cell (List.getD (D.parts d3) 0 D.any) 1)) Tok.non,iv (D.int (D.cell (List.getD (D.parts d3) 0 D.any) 2)),bv (D.bool (D.cell (List.getD (D.parts d3) 0 D.any) 3))]] [] fun d4 o4=>M.br (D.int (List.getD (D.parts d4) 2 D.any) != (0:Int)) (M.br (D.int (List.getD (D.parts d4) 2 D.any) != (40:Int)) (M.pure (Rs.ret (bk false),Blk.arr true 45 1 [etaK0 kSg (vb L2 0)])) (M.br (decide (D.int (vd L2 2)<(0:Int))) (M.pure (Rs.ret (bk false),Blk.arr true 45 1 [etaK0 kSg (vb L2 0)])) (M.pure (Rs.ret (bk true),Blk.arr true 45 1 [f (vb L2 0) d4])))) (M.pure (Rs.ret (bk true),Blk.arr true 45 1 [f (vb L2 0) d4])))) (M.call 37 [D.agg [sl 57 (D.items (D.cell (vb L2 2) 0)),iv (D.int (D.cell (vb L2 2) 1)),iv (D.int (D.cell (vb L2 2) 2))],D.agg [sl 57 (D.items (D.cell (vb L2 1) 0)),sl 164 (D.items (D.cell (vb L2 1) 1)),iv (D.int (D.cell (vb L2 1) 2)),bv (D.bool (D.cell (vb L2 1) 3))]] [] fun d3 o3=>M.br (D.int (List.getD (D.parts d3) 2 D.any) != (0:Int)) (M.br (D.int (List.getD (D.parts d3) 2 D.any) != (40:Int)) (M.pure (Rs.ret (bk false),Blk.arr true 45 1 [etaK0 kSg (vb L2 0)])) (M.br (decide (D.int (vd L2 2)<(0:Int))) (M.pure (Rs.ret (bk false),Blk.arr true 45 1 [etaK0 kSg (vb L2 0)])) (M.pure (Rs.ret (bk true),Blk.arr true 45 1 [f (vb L2 0) d3])))) (M.pure (Rs.ret (bk true),Blk.arr true 45 1 [f (vb L2 0) d3])))) (fun L2=>M.bad 154) fun L2=>M.bad 154))))
theorem t_wr0(s:Sg)(l:List (List D))(w:Int):callRB (cWr 0) [18] 18 [ik 0,sl 57 (l.map dSe),iv w] 0 1 45 (dSg s)=wrT 0 s s.d0 wrF0 l w:=by kernel_rfl
theorem t_wr1(s:Sg)(l:List (List D))(w:Int):callRB (cWr 1) [18] 18 [ik 1,sl 57 (l.map dSe),iv w] 0 1 45 (dSg s)=wrT 1 s s.d1 wrF1 l w:=by kernel_rfl
--X
def conAp:Con PP:=⟨35,[kJo,.one (.sl 5)],.tup [kJo,kI],fun args r=>∃ j b,JcOk j∧b.map D.vv=b∧(∀ x∈j.re,x.map D.vv=x)∧b.length≤112∧(j.re.length:Int)+1≤j.many∧args=[dJo j,sl 5 b]∧r=.tup [dJo { j with re:=j.re++[b] },iv 0],fun args r ⟨j,b,hj,hv,hr,hb,hm,ha,hd⟩ h=>by subst ha;subst hd;exact ap_ok j b hj hv hr hb hm h⟩
abbrev gWrC:List (Con PP):=[conRst,conOp,conAp,conStp,conJs]
abbrev stWr (u w:Int):List D:=[.p 0 0 0,ik u,iv w,.p 1 0 0,.p 2 0 0]
abbrev bWr (s:Sg) (d:Di) (j:Jo):List Blk:=[.arr true 45 1 [dSg s],.arr true 39 1 [dDi d],.arr true 98 1 [dJo j]]
theorem wr_lp(u:Int)(hrd:∀ (s:Sg)(j:Jo)(d:Di)(l:List D)(w n i:Int),eWr u (18,0) ⟨stWr u w++[sl 57 l,iv n,iv i],bWr s d j,[]⟩=(M.br (decide (i<n)) (M.get l i fun d0=>M.call 35 [dJo j,sl 5 (D.items d0)] [] fun d1 o1=>M.br (D.int (List.getD (D.parts d1) 1 D.any) != (0:Int)) (M.bad 151) (M.pure (none,⟨[D.p 0 0 0,ik u,iv w,D.p 1 0 0,D.p 2 0 0,sl 57 l,iv n,iv (w64 (i+(1:Int)))],[Blk.arr true 45 1 [dSg s],Blk.arr true 39 1 [dDi d],Blk.arr true 98 1 [D.agg [D.sl false 57 (D.items (D.cell (List.getD (D.parts d1) 0 D.any) 0)) Tok.non,iv (D.int (D.cell (List.getD (D.parts d1) 0 D.any) 1)),iv (D.int (D.cell (List.getD (D.parts d1) 0 D.any) 2))]]],[]⟩))) (M.pure (some 0,⟨stWr u w,bWr s d j,[]⟩))))
 (s:Sg) (d:Di) (j:Jo) (w:Int) (l:List (List D)) (hj:JcOk j) (hl:∀ b∈l,By b∧b.length≤112) (hr:∀ b∈j.re,By b∧b.length≤112) (hm:((j.re.length+l.length:Nat):Int)≤j.many):Lp (eWr u) (consΓ gWrC) (18,0) ⟨stWr u w++[sl 57 (l.map dSe),iv l.length,iv 0],bWr s d j,[]⟩ 0 ⟨stWr u w,bWr s d { j with re:=j.re++l },[]⟩:=by
 have hm2:=hj.m2
 have hlp:∃ j1 L,Lp (eWr u) (consΓ gWrC) (18,0) ⟨stWr u w++[sl 57 (l.map dSe),iv l.length,iv (((0:Nat)):Int)],bWr s d { j with re:=j.re++l.take 0 },[]⟩ j1 L∧j1=0∧L=⟨stWr u w,bWr s d { j with re:=j.re++l },[]⟩:=by
  refine lp_up (σ:=Unit) (fun i _=>⟨stWr u w++[sl 57 (l.map dSe),iv l.length,iv ((i:Nat):Int)],bWr s d { j with re:=j.re++l.take i },[]⟩) l.length (fun _ _=>True) _ (fun i _ hi _=>?_) (fun _ _=>?_) (s:=()) trivial
  ·rw [hrd]
   have hx:=List.getElem?_eq_getElem hi
   have ht:l.take (i+1)=l.take i++[l[i]'hi]:=List.take_succ_eq_append_getElem hi
   generalize l[i]'hi=b at *
   have hbm:=hl b (List.mem_of_getElem? hx)
   have hg:(l.map dSe)[((i:Nat):Int).toNat]?=some (dSe b):=by
    rw [Int.toNat_natCast,List.getElem?_map,hx];rfl
   have hall:∀ x∈j.re++l.take i,By x∧x.length≤112:=fun x hx=>(List.mem_append.1 hx).elim (hr x) fun hx=>hl x (List.mem_of_mem_take hx)
   have hlen:(j.re++l.take i).length=j.re.length+i:=by rw [List.length_append,List.length_take];omega
   refine⟨fun _=>⟨by omega,_,hg,_,[],⟨conAp,rfl,_,⟨{ j with re:=j.re++l.take i },b,⟨hj.m1,hj.m2,hj.s1,?_,?_,fun x hx=>(hall x hx).2⟩,by_vv hbm.1,fun x hx=>by_vv (hall x hx).1,hbm.2,?_,rfl,rfl⟩,rfl⟩,(fun q=>nomatch q),fun _=>.inl ⟨(),?_,trivial⟩⟩,fun h=>absurd (of_decide_eq_false h) (by omega)⟩
   ·show j.syn≤(((j.re++l.take i).length:Nat):Int)
    have:=hj.s2
    rw [hlen];omega
   ·show(((j.re++l.take i).length:Nat):Int)≤j.many
    rw [hlen];omega
   ·show(((j.re++l.take i).length:Nat):Int)+1≤j.many
    rw [hlen];omega
   rw [w64_id (by omega) (by omega),ht,← List.append_assoc]
   rfl
  rw [hrd]
  refine⟨fun h=>absurd (of_decide_eq_true h) (by omega),fun _=>⟨0,_,rfl,rfl,?_⟩⟩
  rw [List.take_length]
 obtain⟨_,_,g1,rfl,rfl⟩:=hlp
 rw [List.take_zero,List.append_nil]at g1
 exact g1
def stpD(d:Di)(w:Int):Di:=if 0≤w then { d with left:=w }else d
theorem JsR.shape{j:Jo}{d:Di}{n g:Nat}{r:D}(h:JsR j d n g r):∃ j' d' e,r=.tup [dJo j',dDi d',iv e]∧(e=0∨(e=40∧0≤d.left)):=by
 cases h with
 | non h=>exact⟨_,_,_,rfl,.inl rfl⟩
 | all h hl=>exact⟨_,_,_,rfl,.inl rfl⟩
 | torn w old h h0 hw ho hol=>exact⟨_,_,_,rfl,.inr ⟨rfl,h0⟩⟩
theorem wr_core(u:Int)(s:Sg)(dk:Di)(f:D→D→D)(l:List (List D))(w:Int)(gs:List (Nat×List D))(rest:List (List D))(a b:Nat→Nat)(K:Nat)(Q:Rs×Blk→Prop)(hlp:∀ (d:Di)(j:Jo)(l:List (List D)),JcOk j→(∀ b∈l,By b∧b.length≤112)→(∀ b∈j.re,By b∧b.length≤112)→((j.re.length+l.length:Nat):Int)≤j.many→Lp (eWr u) (consΓ gWrC) (18,0) ⟨stWr u w++[sl 57 (l.map dSe),iv l.length,iv 0],bWr s d j,[]⟩ 0 ⟨stWr u w,bWr s d { j with re:=j.re++l },[]⟩)
 (hv:VvD dk) (hdj:DJ (rstD dk) gs rest) (hre:gs.map (·.2)=l.take gs.length) (hgl:gs.length≤l.length) (hlm:l.length≤dk.se.length) (hby:∀ x∈l,By x∧x.length≤112) (hsg:∀ (i:Nat) s,dk.se[i]?=some s→SG s (a i) (b i)∧a i≤K∧b i≤K) (hK:K<4294967290) (hw : -1≤w) (hw2:w≤65536)
 (j':Jo) (d':Di) (e:Int) (hr:JsR ⟨l,dk.se.length,gs.length⟩ (stpD (rstD dk) w) gs.length (genN a b dk.se.length) (.tup [dJo j',dDi d',iv e])) (he:e=0∨(e=40∧0≤w)) (hQ:Q (.ret (bk true),.arr true 45 1 [f (dSg s) (.tup [dJo j',dDi d',iv e])])):Wp (eWr u) (consΓ gWrC) (wrT u s dk f l w) Q:=by
 have hdo:=hdj.ok
 have n1:=hdo.n1
 have n2:=hdo.n2
 have hvr:VvD (rstD dk):=⟨hv.s,fun w hw=>nomatch hw⟩
 have hvg:∀ x∈gs,x.2.map D.vv=x.2:=fun x hx=>by_vv (hdj.j.ok x hx).2.2.1
 have e1:nI (List.length ((gs.map (·.2)).map dSe))=(gs.length:Int):=by rw [List.length_map,List.length_map]
 have e2:nI (List.length (List.map dSe l))=(l.length:Int):=by rw [List.length_map]
 have hse:(rstD dk).se.length=dk.se.length:=rfl
 have hbg:∀ x∈gs.map (·.2),By x∧x.length≤112:=fun x hx=>hby x (List.mem_of_mem_take (hre▸hx))
 have hj0:JcOk ⟨gs.map (·.2),dk.se.length,gs.length⟩:=⟨by show(1:Int)≤(dk.se.length:Int);omega,by show(dk.se.length:Int)≤4096;omega,Int.natCast_nonneg _,by show(gs.length:Int)≤(((gs.map (·.2)).length:Nat):Int);rw [List.length_map];omega,by show(((gs.map (·.2)).length:Nat):Int)≤(dk.se.length:Int);rw [List.length_map];omega,fun x hx=>(hbg x hx).2⟩
 have hl1:=hlp (rstD dk) ⟨gs.map (·.2),dk.se.length,gs.length⟩ (l.drop gs.length) hj0 (fun b hb=>hby b (List.mem_of_mem_drop hb)) hbg (by rw [List.length_map,List.length_drop];show((gs.length+(l.length-gs.length):Nat):Int)≤(dk.se.length:Int);omega)
 have happ:gs.map (·.2)++l.drop gs.length=l:=by rw [hre];exact List.take_append_drop _ _
 have hl1:Lp (eWr u) (consΓ gWrC) (18,0) ⟨stWr u w++[sl 57 ((l.drop gs.length).map dSe),iv ((l.drop gs.length).length),iv 0],bWr s (rstD dk) ⟨gs.map (·.2),dk.se.length,gs.length⟩,[]⟩ 0 ⟨stWr u w,bWr s (rstD dk) ⟨l,dk.se.length,gs.length⟩,[]⟩:=by
  rw [show({ re:=gs.map (·.2)++l.drop gs.length,many:=dk.se.length,syn:=gs.length }:Jo)=⟨l,dk.se.length,gs.length⟩ by rw [happ]]at hl1
  exact hl1
 have ed:List.drop (Int.toNat (nI (List.length ((gs.map (·.2)).map dSe)))) (l.map dSe)=(l.drop gs.length).map dSe:=by rw [e1,Int.toNat_natCast,List.map_drop]
 have hdj2:DJ (stpD (rstD dk) w) gs rest:=by
  unfold stpD
  split
  ·exact⟨⟨hdo.n1,hdo.n2,hdo.p,by show -1≤w;omega,by show w≤65536;omega,hdo.s,hdo.w⟩,hdj.se,hdj.pe,hdj.st,hdj.j⟩
  exact hdj
 have hse2:(stpD (rstD dk) w).se=dk.se:=by unfold stpD;split<;>rfl
 have hok:JsOk ⟨l,dk.se.length,gs.length⟩ (stpD (rstD dk) w) gs rest a b K:=by
  refine⟨⟨by show(1:Int)≤(dk.se.length:Int);omega,by show(dk.se.length:Int)≤4096;omega,Int.natCast_nonneg _,by show(gs.length:Int)≤(l.length:Int);omega,by show(l.length:Int)≤(dk.se.length:Int);omega,fun x hx=>(hby x hx).2⟩,hdj2,?_,by rw [hse2],rfl,hre.symm,hby,by rw [hse2];exact hsg,hK⟩
  unfold stpD
  split
  ·exact⟨hvr.s,hvr.w⟩
  exact hvr
 have hr':JsR ⟨l,dk.se.length,gs.length⟩ (stpD (rstD dk) w) gs.length (genN a b (stpD (rstD dk) w).se.length) (.tup [dJo j',dDi d',iv e]):=by rw [hse2];exact hr
 have tail:Wp (eWr u) (consΓ gWrC) (M.br (e != (0:Int)) (M.br (e != (40:Int)) (M.pure (Rs.ret (bk false),Blk.arr true 45 1 [etaK0 kSg (dSg s)])) (M.br (decide (w<(0:Int))) (M.pure (Rs.ret (bk false),Blk.arr true 45 1 [etaK0 kSg (dSg s)])) (M.pure (Rs.ret (bk true),Blk.arr true 45 1 [f (dSg s) (.tup [dJo j',dDi d',iv e])])))) (M.pure (Rs.ret (bk true),Blk.arr true 45 1 [f (dSg s) (.tup [dJo j',dDi d',iv e])]))) Q:=by
  rcases he with rfl|⟨rfl,h0⟩
  ·exact⟨(fun q=>nomatch q),fun _=>hQ⟩
  exact⟨fun _=>⟨(fun q=>absurd q (by decide)),fun _=>⟨fun q=>absurd (of_decide_eq_true q) (by omega),fun _=>hQ⟩⟩,fun q=>absurd q (by decide)⟩
 unfold wrT
 refine⟨_,[],⟨conRst,rfl,_,⟨dk,hv,rfl,rfl⟩,rfl⟩,_,[],⟨conOp,rfl,_,⟨rstD dk,gs,rest,hdj,hvg,rfl,rfl⟩,rfl⟩,(fun q=>nomatch q),fun _=>⟨fun q=>?_,fun _=>⟨?_,.inl ⟨⟨stWr u w,bWr s (rstD dk) ⟨l,dk.se.length,gs.length⟩,[]⟩,?_,fun q=>?_,fun q=>?_⟩⟩⟩⟩
 ·have q:nI (List.length ((gs.map (·.2)).map dSe))>nI (List.length (List.map dSe l)):=of_decide_eq_true q
  rw [e1,e2]at q;omega
 ·refine decide_eq_true (show(0:Int)≤nI (List.length ((gs.map (·.2)).map dSe))∧nI (List.length ((gs.map (·.2)).map dSe))≤nI (List.length (List.map dSe l))∧nI (List.length (List.map dSe l))≤nI (List.length (List.map dSe l)) from ?_)
  rw [e1,e2];omega
 ·show Lp (eWr u) _ (18,0) ⟨stWr u w++[sl 57 (List.drop (Int.toNat (nI (List.length ((gs.map (·.2)).map dSe)))) (l.map dSe)),iv (nI (List.length (List.drop (Int.toNat (nI (List.length ((gs.map (·.2)).map dSe)))) (l.map dSe)))),iv 0],bWr s (rstD dk) ⟨gs.map (·.2),dk.se.length,gs.length⟩,[]⟩ 0 _
  rw [ed,show nI (List.length ((l.drop gs.length).map dSe))=((l.drop gs.length).length:Int) by rw [List.length_map]]
  exact hl1
 ·have q:0≤w:=of_decide_eq_true q
  have es:stpD (rstD dk) w={ rstD dk with left:=w }:=by unfold stpD;rw [if_pos q]
  rw [es]at hok hr'
  exact⟨_,[],⟨conStp,rfl,_,⟨rstD dk,w,hdo,hvr,rfl,q,hw2,rfl,rfl⟩,rfl⟩,(fun q=>nomatch q),fun _=>⟨_,[],⟨conJs,rfl,_,⟨_,_,gs,rest,a,b,K,hok,rfl,hr'⟩,rfl⟩,tail⟩⟩
 have q:¬ 0≤w:=of_decide_eq_false q
 have es:stpD (rstD dk) w=rstD dk:=by unfold stpD;rw [if_neg q]
 rw [es]at hok hr'
 exact⟨_,[],⟨conJs,rfl,_,⟨_,_,gs,rest,a,b,K,hok,rfl,hr'⟩,rfl⟩,tail⟩
end Z
namespace Z
structure DSd(d:Di)(gs:List (Nat×List D))(K:Nat):Prop where
 pe:d.pe=[]
 ds:DS d.se gs K
theorem DSd.vv{d:Di}{gs:List (Nat×List D)}{K:Nat}(h:DSd d gs K):VvD d:=⟨fun s hs=>by_vv (h.ds.by_ s hs).1,fun w hw=>by rw [h.pe]at hw;exact nomatch hw⟩
theorem DSd.dj{d:Di}{gs:List (Nat×List D)}{K:Nat}(h:DSd d gs K):DJ (rstD d) gs (d.se.drop gs.length):=by
 have hl:=h.ds.len
 exact⟨⟨by show 1≤d.se.length;omega,by show d.se.length≤4096;omega,Nat.zero_le _,Int.le_refl _,by show(-1:Int)≤65536;decide,fun s hs=>(h.ds.by_ s hs).2,fun w hw=>nomatch hw⟩,h.ds.secs,rfl,rfl,h.ds.jok⟩
theorem DS.mono{S:List (List D)}{gs:List (Nat×List D)}{K L:Nat}(h:DS S gs K)(hk:K≤L):DS S gs L :=
 ⟨fun x hx=>⟨(h.ok x hx).1,Nat.le_trans (h.ok x hx).2 hk⟩,h.up,h.len,h.gl,h.at_,fun s hs=>(h.nx s hs).imp id fun⟨x,h1,h2,h3⟩=>⟨x,h1,Nat.le_trans h2 hk,h3⟩,h.zr⟩
theorem vv_sg{s:Sg}(h0:VvD s.d0)(h1:VvD s.d1):(dSg s).vv=dSg s:=by
 have e0:=vv_ses h0.s
 have e1:=vv_ses h1.s
 have f0:=vv_wrs h0.w
 have f1:=vv_wrs h1.w
 unfold dSg pqL diL
 simp only [List.cons_append,List.nil_append,D.vv,vvL,vvL_map,List.map_cons,List.map_nil,vv_les,vv_cas,vv_ods,e0,e1,f0,f1]
theorem jsr_ex{S:List (List D)}{gs:List (Nat×List D)}{K:Nat}(h:DS S gs K)(d:Di)(l:List (List D))(w:Int)(hS:d.se=S)(hp:d.pe=[])(hle:d.left=if 0≤w then w else -1)(hre:gs.map (·.2)=l.take gs.length)(hgl:gs.length≤l.length)(hl:l.length≤64)(hby:∀ x∈l,By x∧x.length≤50)(hK:K<4294967290)(hw : -1≤w)(many:Int)(g:Nat)(h0:0<g)(hg:g≤K+1)(hu:∀ x∈gs,x.1≤g) :
 ∃ j' d' e m gs',JsR ⟨l,many,gs.length⟩ d gs.length g (.tup [dJo j',dDi d',iv e])∧(e=0∨(e=40∧0≤w))∧gs.length≤m∧m≤l.length∧(w = -1→m=l.length)∧DSd d' gs' (K+1)∧gs'.map (·.2)=l.take m:=by
 have hbd:∀ x∈l.drop gs.length,By x∧x.length≤50:=fun x hx=>hby x (List.mem_of_mem_drop hx)
 have hsn:∀ bs:List (List D),(bs.map fun b=>(g,b)).map (·.2)=bs:=fun bs=>by
  rw [List.map_map];exact(List.map_congr_left fun x _=>rfl).trans (List.map_id _)
 rcases Nat.lt_or_ge gs.length l.length with hn|hn
 ·by_cases hc:d.left = -1∨((l.length-gs.length:Nat):Int)≤d.left
  ·have hwr:=h.write g (l.drop gs.length) h0 hg (by omega) hu hbd (by rw [List.length_drop];omega)
   refine⟨_,_,_,l.length,gs++(l.drop gs.length).map fun b=>(g,b),.all hn hc,.inl rfl,hgl,Nat.le_refl _,fun _=>rfl,⟨rfl,?_⟩,?_⟩
   ·show DS (prf d.se (pend g gs.length (l.drop gs.length))) _ _
    rw [hS];exact hwr
   rw [List.map_append,hsn,hre,List.take_append_drop,List.take_length]
  have hw0:0≤w:=by
   by_cases hw0:0≤w
   ·exact hw0
   rw [if_neg hw0]at hle;exact absurd (.inl hle) hc
  rw [if_pos hw0]at hle
  have hwl:w.toNat<l.length-gs.length:=by
   have:¬ ((l.length-gs.length:Nat):Int)≤d.left:=fun h=>hc (.inr h)
   omega
  have hwr:=h.write g ((l.drop gs.length).take w.toNat) h0 hg (by omega) hu (fun b hb=>hbd b (List.mem_of_mem_take hb)) (by rw [List.length_take,List.length_drop];omega)
  have hln:(gs++((l.drop gs.length).take w.toNat).map fun b=>(g,b)).length=gs.length+w.toNat:=by
   rw [List.length_append,List.length_map,List.length_take,List.length_drop];omega
  have hi:w.toNat<(l.drop gs.length).length:=by rw [List.length_drop];omega
  have hb:=List.getElem?_eq_getElem hi
  generalize (l.drop gs.length)[w.toNat]'hi=b at hb
  have hbm:=hbd b (List.mem_of_getElem? hb)
  have hpg:=pend_get g (l.drop gs.length) gs.length w.toNat b hb
  have hlt:gs.length+w.toNat<(prf S (pend g gs.length ((l.drop gs.length).take w.toNat))).length:=by rw [prf_len,h.len];omega
  have ho:=List.getElem?_eq_getElem hlt
  generalize (prf S (pend g gs.length ((l.drop gs.length).take w.toNat)))[gs.length+w.toNat]'hlt=old at ho
  have hol:old.length=128:=(hwr.by_ old (List.mem_of_getElem? ho)).2
  have htn:=hwr.torn g b old h0 hg (by omega) hbm (by rw [hln];exact ho)
  rw [hln]at htn
  refine⟨_,_,_,gs.length+w.toNat,gs++((l.drop gs.length).take w.toNat).map fun b=>(g,b),.torn ⟨((gs.length+w.toNat:Nat):Int),encS g ((gs.length+w.toNat:Nat):Int) 3 b⟩ old hn (by omega) (by rw [hle];exact hpg) (by rw [hle,hS,pend_take];exact ho) hol,.inr ⟨rfl,hw0⟩,by omega,by omega,fun h=>by omega,⟨rfl,?_⟩,?_⟩
  ·show DS ((prf d.se ((pend g gs.length (l.drop gs.length)).take d.left.toNat)).set (((gs.length+w.toNat:Nat):Int)).toNat ((encS g ((gs.length+w.toNat:Nat):Int) 3 b).take 64++old.drop 64)) _ _
   rw [hle,hS,pend_take,Int.toNat_natCast]
   exact htn
  rw [List.map_append,hsn,hre]
  exact(List.take_add ..).symm
 refine⟨_,_,_,gs.length,gs,.non (show l.length=gs.length by omega),.inl rfl,Nat.le_refl _,hgl,fun _=>by omega,⟨hp,by rw [hS];exact h.mono (Nat.le_succ _)⟩,hre⟩
def Sg.dk(s:Sg)(u:Int):Di:=if u=0 then s.d0 else s.d1
def Sg.setD(s:Sg)(u:Int)(d:Di):Sg:=if u=0 then { s with d0:=d }else { s with d1:=d }
theorem named_wr0:NamedT (eWr 0) PP (cWr 0) [18] yh0:=named_loop (id0:=(18,0)) (by kernel_rfl) (by kernel_rfl) (by kernel_rfl) (fun s=>by kernel_rfl) (fun L=>rfl) (NamedT.nil (P:=PP))
theorem named_wr1:NamedT (eWr 1) PP (cWr 1) [18] yh0:=named_loop (id0:=(18,0)) (by kernel_rfl) (by kernel_rfl) (by kernel_rfl) (fun s=>by kernel_rfl) (fun L=>rfl) (NamedT.nil (P:=PP))
theorem wr_den(u:Int)(a:List D):∀ (j:Nat) d e,(D.p 0 0 0::iv u::a)[j]?=some d→(D.p 0 0 0::ik u::a)[j]?=some e→∀ {I:Gh}{α:Al}{x:Value},Den (tyOf PP) I α d x→Den (tyOf PP) I α e x:=fun j d e h1 h2 {I α x} hd=>by
 match j,h1,h2 with
 | 0,h1,h2=>cases h1;cases h2;exact hd
 | 1,h1,h2 =>
  obtain rfl:iv u=d:=Option.some.inj h1
  obtain rfl:ik u=e:=Option.some.inj h2
  exact den_k hd
 | j+2,h1,h2 =>
  have h1:a[j]?=some d:=h1
  have h2:a[j]?=some e:=h2
  rw [h1]at h2;obtain rfl:=Option.some.inj h2
  exact hd
theorem wr_ex(u:Int)(hu:u=0∨u=1)(s:Sg)(l:List (List D))(w:Int)(gs:List (Nat×List D))(K:Nat)(hd:DSd (s.dk u) gs K)(hv0:VvD s.d0)(hv1:VvD s.d1)(hre:gs.map (·.2)=l.take gs.length)(hgl:gs.length≤l.length)(hl:l.length≤64)(hby:∀ x∈l,By x∧x.length≤50)(hK:K<4294967290)(hw : -1≤w)(hw2:w≤65536) :
 ∃ d' m gs',gs.length≤m∧m≤l.length∧(w = -1→m=l.length)∧DSd d' gs' (K+1)∧gs'.map (·.2)=l.take m∧CallSd PP 18 (.p 0 0 0::[iv u,sl 57 (l.map dSe),iv w]) (hpOf 1 [0] [.arr true 45 1 [dSg s]]) (.ret (bv true)) (hpOf 1 [0] [.arr true 45 1 [dSg (s.setD u d')]]):=by
 have hex:∀ i:Nat,∃ p:Nat×Nat,∀ s1:List D,(s.dk u).se[i]?=some s1→SG s1 p.1 p.2∧p.1≤K∧p.2≤K∧∀ x:Nat×List D,gs[i]?=some x→x.1≤p.1:=fun i=>by
  cases hs:(s.dk u).se[i]? with
  | none=>exact⟨(0,0),fun s1 h=>nomatch h⟩
  | some s1 =>
   obtain⟨a,b,h1⟩:=hd.ds.sg hs
   exact⟨(a,b),fun s2 h=>by obtain rfl:=Option.some.inj h;exact h1⟩
 obtain⟨ab,hab⟩:=Classical.axiomOfChoice hex
 have hlen:=hd.ds.len
 have hsg:∀ (i:Nat) s1,(s.dk u).se[i]?=some s1→SG s1 (ab i).1 (ab i).2∧(ab i).1≤K∧(ab i).2≤K:=fun i s1 h=>let ⟨h1,h2,h3,_⟩:=hab i s1 h;⟨h1,h2,h3⟩
 have hG:=genN_le (a:=fun i=>(ab i).1) (b:=fun i=>(ab i).2) (K:=K) (s.dk u).se.length fun i hi=>(hsg i _ (List.getElem?_eq_getElem hi)).2
 have hGu:∀ x∈gs,x.1≤genN (fun i=>(ab i).1) (fun i=>(ab i).2) (s.dk u).se.length:=fun x hx=>by
  obtain⟨i,hi⟩:=List.mem_iff_getElem?.1 hx
  have hil:i<(s.dk u).se.length:=by
   have:=(List.getElem?_eq_some_iff.1 hi).1
   have:=hd.ds.gl
   omega
  have h1:=(hab i _ (List.getElem?_eq_getElem hil)).2.2.2 x hi
  have h2:=(genN_gt (a:=fun i=>(ab i).1) (b:=fun i=>(ab i).2) (s.dk u).se.length i hil).1
  have h2:(ab i).1<genN (fun i=>(ab i).1) (fun i=>(ab i).2) (s.dk u).se.length:=h2
  omega
 have hse:(stpD (rstD (s.dk u)) w).se=(s.dk u).se:=by unfold stpD;split<;>rfl
 obtain⟨j',d',e,m,gs',hr,he,h1,h2,h3,h4,h5⟩:=jsr_ex hd.ds (stpD (rstD (s.dk u)) w) l w hse (by unfold stpD;split<;>rfl) (by unfold stpD;split<;>rfl) hre hgl hl hby hK hw ((s.dk u).se.length:Int) (genN (fun i=>(ab i).1) (fun i=>(ab i).2) (s.dk u).se.length) (genN_pos _) hG hGu
 refine⟨d',m,gs',h1,h2,h3,h4,h5,?_⟩
 have hby2:∀ x∈l,By x∧x.length≤112:=fun x hx=>⟨(hby x hx).1,by have:=(hby x hx).2;omega⟩
 rcases hu with rfl|rfl
 ·have hq:ResB (.one kB) kSg 45 (bv true) (dSg { s with d0:=d' }) (.ret (bk true),.arr true 45 1 [wrF0 (dSg s) (.tup [dJo j',dDi d',iv e])]):=⟨_,_,_,_,rfl,rfl,rfl,rfl,vv_sg (s:={ s with d0:=d' }) h4.vv hv1⟩
  refine CallSd.sub (a:=.p 0 0 0::[ik 0,sl 57 (l.map dSe),iv w]) rfl (wr_den 0 _) (con_ofB (E:=eWr 0) (Γ:=consΓ gWrC) (C:=cWr 0) (l:=[18]) kSg (.one kB) (show CallOk PP (eWr 0) (consΓ gWrC) (cons PP rwWr) from cons_ok rfl) named_wr0 (by decide) rfl rfl (to_wp ?_))
  rw [t_wr0]
  exact wr_core 0 s s.d0 wrF0 l w gs _ _ _ K _ (fun d j l h1 h2 h3 h4=>wr_lp 0 (fun s j d l w n i=>rd_wr0 s j d l w n i) s d j w l h1 h2 h3 h4) hv0 hd.dj hre hgl (by show l.length≤(s.dk 0).se.length;omega) hby2 hsg hK hw hw2 j' d' e hr he hq
 have hq:ResB (.one kB) kSg 45 (bv true) (dSg { s with d1:=d' }) (.ret (bk true),.arr true 45 1 [wrF1 (dSg s) (.tup [dJo j',dDi d',iv e])]):=⟨_,_,_,_,rfl,rfl,rfl,rfl,vv_sg (s:={ s with d1:=d' }) hv0 h4.vv⟩
 refine CallSd.sub (a:=.p 0 0 0::[ik 1,sl 57 (l.map dSe),iv w]) rfl (wr_den 1 _) (con_ofB (E:=eWr 1) (Γ:=consΓ gWrC) (C:=cWr 1) (l:=[18]) kSg (.one kB) (show CallOk PP (eWr 1) (consΓ gWrC) (cons PP rwWr) from cons_ok rfl) named_wr1 (by decide) rfl rfl (to_wp ?_))
 rw [t_wr1]
 exact wr_core 1 s s.d1 wrF1 l w gs _ _ _ K _ (fun d j l h1 h2 h3 h4=>wr_lp 1 (fun s j d l w n i=>rd_wr1 s j d l w n i) s d j w l h1 h2 h3 h4) hv1 hd.dj hre hgl (by show l.length≤(s.dk 1).se.length;omega) hby2 hsg hK hw hw2 j' d' e hr he hq
def conWr:ConB PP:=⟨18,0,1,45,kSg,kWr,.one kB,false,fun args c d c'=>CallSd PP 18 (.p 0 0 0::args) (hpOf 1 [0] [.arr true 45 1 [c]]) (.ret (etaR (.one kB) d)) (hpOf 1 [0] [.arr true 45 1 [etaK0 kSg c']]),fun _ _ _ _ h=>h,by decide,fun h=>nomatch h⟩
end Z
namespace Z
def gKn:LCfg:=⟨18,4,4,⟨[(0,.el (.one (.sl 64))),(3,.fix (.p 0 0 0)),(5,sI)],[(0,.each 64 1 [.el kLe])]⟩,[(.exit 0,⟨[],[(0,.each 64 1 [.el kLe])]⟩),(.ret,⟨[(4,.el kB)],[(0,.each 64 1 [.el kLe])]⟩)]⟩
noncomputable def cKn:Cf:=cf [] [⟨21,0,2,(21,0),gKn⟩] []
noncomputable def eKn:LId→LSt→M Rd1:=fun id L=>gKn.round PP (kitF PP cKn (callT PP cKn []) yh0 21) (lcode 21 0) L
theorem t_kn(l:List Le)(x:Le):callR cKn [21] 21 [sl 64 (l.map dLe),dLe x]=(M.loop (21,0) (ls [sl 64 (List.map dLe l),D.p 0 0 0,iv (0:Int)] [Blk.arr true 64 1 [D.agg [iv x.1,iv x.2,iv x.3]]]) (fun L0=>M.pure (Rs.ret (bk false))) (fun L0=>M.pure (Rs.ret (bv (D.bool (vd L0 0))))) fun L0=>M.bad 154):=by kernel_rfl
theorem rd_kn(l:List Le)(x:Le)(i:Int):eKn (21,0) ⟨[sl 64 (l.map dLe),.p 0 0 0,iv i],[.arr true 64 1 [dLe x]],[]⟩=(M.br (decide (i<nI (List.length (List.map dLe l)))) (M.get (List.map dLe l) i fun d0=>M.br (decide (D.int (D.cell d0 0)=x.1) && (decide (D.int (D.cell d0 1)=x.2) && (decide (D.int (D.cell d0 2)=x.3) && true))) (M.pure (some 1,(ls [bv true] [Blk.arr true 64 1 [D.agg [iv x.1,iv x.2,iv x.3]]]))) (M.pure (none,(ls [sl 64 (List.map dLe l),D.p 0 0 0,iv (w64 (i+(1:Int)))] [Blk.arr true 64 1 [D.agg [iv x.1,iv x.2,iv x.3]]])))) (M.pure (some 0,(ls [] [Blk.arr true 64 1 [D.agg [iv x.1,iv x.2,iv x.3]]])))):=by kernel_rfl
theorem kn_lp{Γ:Cn}(l:List Le)(x:Le)(hs:l.length<1000000):∃ j L,Lp eKn Γ (21,0) ⟨[sl 64 (l.map dLe),.p 0 0 0,iv (((0:Nat)):Int)],[.arr true 64 1 [dLe x]],[]⟩ j L∧((j=0∧x∉l∧L=⟨[],[.arr true 64 1 [dLe x]],[]⟩)∨(j=1∧x∈l∧L=⟨[bv true],[.arr true 64 1 [dLe x]],[]⟩)):=by
 have hlen:nI (l.map dLe).length=(l.length:Int):=by rw [List.length_map]
 refine lp_up (σ:=Unit) (fun i _=>⟨[sl 64 (l.map dLe),.p 0 0 0,iv ((i:Nat):Int)],[.arr true 64 1 [dLe x]],[]⟩) l.length (fun i _=>∀ (k:Nat) (y:Le),l[k]?=some y→k<i→y≠x) _ (fun i _ hi hI=>?_) (fun _ hI=>?_) (s:=()) (fun _ _ _ h=>absurd h (by omega))
 ·rw [rd_kn,hlen]
  have hy:=List.getElem?_eq_getElem hi
  generalize l[i]=y at hy
  have hg:(l.map dLe)[((i:Nat):Int).toNat]?=some (dLe y):=by
   rw [Int.toNat_natCast,List.getElem?_map,hy];rfl
  refine⟨fun _=>⟨by omega,_,hg,fun q=>.inr ⟨1,_,rfl,.inr ⟨rfl,?_,rfl⟩⟩,fun q=>.inl ⟨(),(by rw [w64_id (by omega) (by omega)];rfl),fun k z h1 h2=>?_⟩⟩,fun h=>absurd (of_decide_eq_false h) (by omega)⟩
  ·have q:(decide (y.no=x.no) && (decide (y.ho=x.ho) && (decide (y.un=x.un) && true)))=true:=q
   rw [dec_le]at q
   rw [← of_decide_eq_true q]
   exact List.mem_of_getElem? hy
  by_cases hk:k=i
  ·subst hk
   rw [hy]at h1;obtain rfl:=Option.some.inj h1
   have q:(decide (y.no=x.no) && (decide (y.ho=x.ho) && (decide (y.un=x.un) && true)))=false:=q
   rw [dec_le]at q
   exact of_decide_eq_false q
  exact hI k z h1 (by omega)
 rw [rd_kn,hlen]
 refine⟨fun h=>absurd (of_decide_eq_true h) (by omega),fun _=>⟨0,_,rfl,.inl ⟨rfl,fun hm=>?_,rfl⟩⟩⟩
 obtain⟨k,hk⟩:=List.mem_iff_getElem?.1 hm
 exact hI k x hk (List.getElem?_eq_some_iff.1 hk).1 rfl
theorem kn_ok(l:List Le)(x:Le)(hs:l.length<1000000)(h:Heap):CallSd PP 21 [sl 64 (l.map dLe),dLe x] h (.ret (bv (decide (x∈l)))) h:=by
 refine con_of (E:=eKn) (Γ:=consΓ (P:=PP) []) (C:=cKn) (l:=[21]) (.one kB) (cons_ok rfl) (named_loop (id0:=(21,0)) (by kernel_rfl) (by kernel_rfl) (by kernel_rfl) (fun s=>by kernel_rfl) (fun L=>rfl) (NamedT.nil (P:=PP))) rfl rfl rfl (to_wp ?_) h
 rw [t_kn]
 obtain⟨_,_,g1,⟨rfl,g2,rfl⟩|⟨rfl,g2,rfl⟩⟩:=kn_lp (Γ:=consΓ (P:=PP) []) l x hs
 ·exact .inl ⟨_,g1,_,_,rfl,rfl,(by rw [decide_eq_false g2];rfl)⟩
 exact .inr (.inl ⟨_,g1,_,_,rfl,rfl,(by rw [decide_eq_true g2];rfl)⟩)
def conKn:Con PP:=⟨21,[.one (.sl 64),kLe],.one kB,fun args d=>∃ (l:List Le) (x:Le),l.length<1000000∧args=[sl 64 (l.map dLe),dLe x]∧d=bv (decide (x∈l)),fun args d ⟨l,x,hs,ha,hd⟩ h=>by subst ha;subst hd;exact kn_ok l x hs h⟩
end Z
namespace Z
def gSr:LCfg:=⟨28,4,4,⟨[(0,.el (.one (.sl 57))),(1,.el (.one (.sl 57))),(5,sI)],[]⟩,[(.exit 0,⟨[],[]⟩),(.ret,⟨[(4,.el kB)],[]⟩)]⟩
noncomputable def cSr:Cf:=cf [] [⟨23,0,4,(23,0),gSr⟩] []
noncomputable def eSr:LId→LSt→M Rd1:=fun id L=>gSr.round PP (kitF PP cSr (callT PP cSr []) yh0 23) (lcode 23 0) L
theorem t_sr(l:List (List D)):callR cSr [23] 23 [sl 57 (l.map dSe),sl 57 (l.map dSe)]=(M.br (nI (List.length (List.map dSe l)) != nI (List.length (List.map dSe l))) (M.pure (Rs.ret (bk false))) (M.loop (23,0) (ls [sl 57 (List.map dSe l),sl 57 (List.map dSe l),iv (0:Int)] []) (fun L0=>M.pure (Rs.ret (bk true))) (fun L0=>M.pure (Rs.ret (bv (D.bool (vd L0 0))))) fun L0=>M.bad 154)):=by kernel_rfl
theorem rd_sr(l:List (List D))(i:Int):eSr (23,0) ⟨[sl 57 (l.map dSe),sl 57 (l.map dSe),iv i],[],[]⟩=(M.br (decide (i<nI (List.length (List.map dSe l)))) (M.get (List.map dSe l) i fun d0=>M.get (List.map dSe l) i fun d1=>M.br (!decide (strOfNums (List.map D.int (D.items d0))=strOfNums (List.map D.int (D.items d1)))) (M.pure (some 1,(ls [bv false] []))) (M.pure (none,(ls [sl 57 (List.map dSe l),sl 57 (List.map dSe l),iv (w64 (i+(1:Int)))] [])))) (M.pure (some 0,(ls [] [])))):=by kernel_rfl
theorem sr_ok(l:List (List D))(hs:l.length<1000000)(h:Heap):CallSd PP 23 [sl 57 (l.map dSe),sl 57 (l.map dSe)] h (.ret (bv true)) h:=by
 refine con_of (E:=eSr) (Γ:=consΓ (P:=PP) []) (C:=cSr) (l:=[23]) (.one kB) (cons_ok rfl) (named_loop (id0:=(23,0)) (by kernel_rfl) (by kernel_rfl) (by kernel_rfl) (fun s=>by kernel_rfl) (fun L=>rfl) (NamedT.nil (P:=PP))) rfl rfl rfl (to_wp ?_) h
 rw [t_sr]
 have hlen:nI (l.map dSe).length=(l.length:Int):=by rw [List.length_map]
 have hlp:∃ j L,Lp eSr (consΓ (P:=PP) []) (23,0) ⟨[sl 57 (l.map dSe),sl 57 (l.map dSe),iv (((0:Nat)):Int)],[],[]⟩ j L∧j=0∧L=⟨[],[],[]⟩:=by
  refine lp_up (σ:=Unit) (fun i _=>⟨[sl 57 (l.map dSe),sl 57 (l.map dSe),iv ((i:Nat):Int)],[],[]⟩) l.length (fun _ _=>True) _ (fun i _ hi _=>?_) (fun _ _=>?_) (s:=()) trivial
  ·rw [rd_sr,hlen]
   have hy:=List.getElem?_eq_getElem hi
   generalize l[i]=y at hy
   have hg:(l.map dSe)[((i:Nat):Int).toNat]?=some (dSe y):=by
    rw [Int.toNat_natCast,List.getElem?_map,hy];rfl
   refine⟨fun _=>⟨by omega,_,hg,by omega,_,hg,fun q=>?_,fun _=>.inl ⟨(),(by rw [w64_id (by omega) (by omega)];rfl),trivial⟩⟩,fun h=>absurd (of_decide_eq_false h) (by omega)⟩
   simp at q
  rw [rd_sr,hlen]
  exact⟨fun h=>absurd (of_decide_eq_true h) (by omega),fun _=>⟨0,_,rfl,rfl,rfl⟩⟩
 obtain⟨_,_,g1,rfl,rfl⟩:=hlp
 exact⟨fun q=>by simp at q,fun _=>.inl ⟨_,g1,_,_,rfl,rfl,rfl⟩⟩
def conSr:Con PP:=⟨23,[.one (.sl 57),.one (.sl 57)],.one kB,fun args d=>∃ l:List (List D),l.length<1000000∧args=[sl 57 (l.map dSe),sl 57 (l.map dSe)]∧d=bv true,fun args d ⟨l,hs,ha,hd⟩ h=>by subst ha;subst hd;exact sr_ok l hs h⟩
end Z
namespace Z
def gSa(t:TypeId):LCfg:=⟨26,4,4,⟨[(0,.el (.one (.sl t))),(1,.el (.one (.sl t))),(5,sI)],[]⟩,[(.exit 0,⟨[],[]⟩),(.ret,⟨[(4,.el kB)],[]⟩)]⟩
noncomputable def cSl:Cf:=cf [] [⟨50,0,4,(50,0),gSa 64⟩] []
noncomputable def cSc:Cf:=cf [] [⟨51,0,4,(51,0),gSa 66⟩] []
noncomputable def eSl:LId→LSt→M Rd1:=fun id L=>(gSa 64).round PP (kitF PP cSl (callT PP cSl []) yh0 50) (lcode 50 0) L
noncomputable def eSc:LId→LSt→M Rd1:=fun id L=>(gSa 66).round PP (kitF PP cSc (callT PP cSc []) yh0 51) (lcode 51 0) L
theorem t_sl(l:List Le):callR cSl [50] 50 [sl 64 (l.map dLe),sl 64 (l.map dLe)]=(M.br (nI (List.length (List.map dLe l)) != nI (List.length (List.map dLe l))) (M.pure (Rs.ret (bk false))) (M.loop (50,0) (ls [sl 64 (List.map dLe l),sl 64 (List.map dLe l),iv (0:Int)] []) (fun L0=>M.pure (Rs.ret (bk true))) (fun L0=>M.pure (Rs.ret (bv (D.bool (vd L0 0))))) fun L0=>M.bad 154)):=by kernel_rfl
theorem t_sc(l:List Ca):callR cSc [51] 51 [sl 66 (l.map dCa),sl 66 (l.map dCa)]=(M.br (nI (List.length (List.map dCa l)) != nI (List.length (List.map dCa l))) (M.pure (Rs.ret (bk false))) (M.loop (51,0) (ls [sl 66 (List.map dCa l),sl 66 (List.map dCa l),iv (0:Int)] []) (fun L0=>M.pure (Rs.ret (bk true))) (fun L0=>M.pure (Rs.ret (bv (D.bool (vd L0 0))))) fun L0=>M.bad 154)):=by kernel_rfl
theorem rd_sl(l:List Le)(i:Int):eSl (50,0) ⟨[sl 64 (l.map dLe),sl 64 (l.map dLe),iv i],[],[]⟩=(M.br (decide (i<nI (List.length (List.map dLe l)))) (M.get (List.map dLe l) i fun d0=>M.get (List.map dLe l) i fun d1=>M.br (!(decide (D.int (D.cell d0 0)=D.int (D.cell d1 0)) && (decide (D.int (D.cell d0 1)=D.int (D.cell d1 1)) && (decide (D.int (D.cell d0 2)=D.int (D.cell d1 2)) && true)))) (M.pure (some 1,(ls [bv false] []))) (M.pure (none,(ls [sl 64 (List.map dLe l),sl 64 (List.map dLe l),iv (w64 (i+(1:Int)))] [])))) (M.pure (some 0,(ls [] [])))):=by kernel_rfl
theorem rd_sc(l:List Ca)(i:Int):eSc (51,0) ⟨[sl 66 (l.map dCa),sl 66 (l.map dCa),iv i],[],[]⟩=(M.br (decide (i<nI (List.length (List.map dCa l)))) (M.get (List.map dCa l) i fun d0=>M.get (List.map dCa l) i fun d1=>M.br (!(decide (D.int (D.cell d0 0)=D.int (D.cell d1 0)) && (decide (D.int (D.cell d0 1)=D.int (D.cell d1 1)) && true))) (M.pure (some 1,(ls [bv false] []))) (M.pure (none,(ls [sl 66 (List.map dCa l),sl 66 (List.map dCa l),iv (w64 (i+(1:Int)))] [])))) (M.pure (some 0,(ls [] [])))):=by kernel_rfl
theorem sl_ok(l:List Le)(hs:l.length<1000000)(h:Heap):CallSd PP 50 [sl 64 (l.map dLe),sl 64 (l.map dLe)] h (.ret (bv true)) h:=by
 refine con_of (E:=eSl) (Γ:=consΓ (P:=PP) []) (C:=cSl) (l:=[50]) (.one kB) (cons_ok rfl) (named_loop (id0:=(50,0)) (by kernel_rfl) (by kernel_rfl) (by kernel_rfl) (fun s=>by kernel_rfl) (fun L=>rfl) (NamedT.nil (P:=PP))) rfl rfl rfl (to_wp ?_) h
 rw [t_sl]
 have hlen:nI (l.map dLe).length=(l.length:Int):=by rw [List.length_map]
 have hlp:∃ j L,Lp eSl (consΓ (P:=PP) []) (50,0) ⟨[sl 64 (l.map dLe),sl 64 (l.map dLe),iv (((0:Nat)):Int)],[],[]⟩ j L∧j=0∧L=⟨[],[],[]⟩:=by
  refine lp_up (σ:=Unit) (fun i _=>⟨[sl 64 (l.map dLe),sl 64 (l.map dLe),iv ((i:Nat):Int)],[],[]⟩) l.length (fun _ _=>True) _ (fun i _ hi _=>?_) (fun _ _=>?_) (s:=()) trivial
  ·rw [rd_sl,hlen]
   have hy:=List.getElem?_eq_getElem hi
   generalize l[i]=y at hy
   have hg:(l.map dLe)[((i:Nat):Int).toNat]?=some (dLe y):=by
    rw [Int.toNat_natCast,List.getElem?_map,hy];rfl
   refine⟨fun _=>⟨by omega,_,hg,by omega,_,hg,fun q=>?_,fun _=>.inl ⟨(),(by rw [w64_id (by omega) (by omega)];rfl),trivial⟩⟩,fun h=>absurd (of_decide_eq_false h) (by omega)⟩
   have q:(!(decide (y.no=y.no) && (decide (y.ho=y.ho) && (decide (y.un=y.un) && true))))=true:=q
   simp at q
  rw [rd_sl,hlen]
  exact⟨fun h=>absurd (of_decide_eq_true h) (by omega),fun _=>⟨0,_,rfl,rfl,rfl⟩⟩
 obtain⟨_,_,g1,rfl,rfl⟩:=hlp
 exact⟨fun q=>by simp at q,fun _=>.inl ⟨_,g1,_,_,rfl,rfl,rfl⟩⟩
theorem sc_ok(l:List Ca)(hs:l.length<1000000)(h:Heap):CallSd PP 51 [sl 66 (l.map dCa),sl 66 (l.map dCa)] h (.ret (bv true)) h:=by
 refine con_of (E:=eSc) (Γ:=consΓ (P:=PP) []) (C:=cSc) (l:=[51]) (.one kB) (cons_ok rfl) (named_loop (id0:=(51,0)) (by kernel_rfl) (by kernel_rfl) (by kernel_rfl) (fun s=>by kernel_rfl) (fun L=>rfl) (NamedT.nil (P:=PP))) rfl rfl rfl (to_wp ?_) h
 rw [t_sc]
 have hlen:nI (l.map dCa).length=(l.length:Int):=by rw [List.length_map]
 have hlp:∃ j L,Lp eSc (consΓ (P:=PP) []) (51,0) ⟨[sl 66 (l.map dCa),sl 66 (l.map dCa),iv (((0:Nat)):Int)],[],[]⟩ j L∧j=0∧L=⟨[],[],[]⟩:=by
  refine lp_up (σ:=Unit) (fun i _=>⟨[sl 66 (l.map dCa),sl 66 (l.map dCa),iv ((i:Nat):Int)],[],[]⟩) l.length (fun _ _=>True) _ (fun i _ hi _=>?_) (fun _ _=>?_) (s:=()) trivial
  ·rw [rd_sc,hlen]
   have hy:=List.getElem?_eq_getElem hi
   generalize l[i]=y at hy
   have hg:(l.map dCa)[((i:Nat):Int).toNat]?=some (dCa y):=by
    rw [Int.toNat_natCast,List.getElem?_map,hy];rfl
   refine⟨fun _=>⟨by omega,_,hg,by omega,_,hg,fun q=>?_,fun _=>.inl ⟨(),(by rw [w64_id (by omega) (by omega)];rfl),trivial⟩⟩,fun h=>absurd (of_decide_eq_false h) (by omega)⟩
   have q:(!(decide (y.bar=y.bar) && (decide (y.pr=y.pr) && true)))=true:=q
   simp at q
  rw [rd_sc,hlen]
  exact⟨fun h=>absurd (of_decide_eq_true h) (by omega),fun _=>⟨0,_,rfl,rfl,rfl⟩⟩
 obtain⟨_,_,g1,rfl,rfl⟩:=hlp
 exact⟨fun q=>by simp at q,fun _=>.inl ⟨_,g1,_,_,rfl,rfl,rfl⟩⟩
end Z
namespace Z
def nSm:List (Nat×BK):=[(0,.each 27 1 [.el kRp]),(1,.each 27 1 [.el kRp])]
def gSm:LCfg:=⟨54,4,4,⟨[(2,.fix (.p 0 0 0)),(3,.fix (.p 1 0 0)),(5,sI)],nSm⟩,[(.exit 0,⟨[],nSm⟩),(.ret,⟨[(4,.el kB)],nSm⟩)]⟩
def rwSm:List CRow:=[⟨50,[.one (.sl 64),.one (.sl 64)],.one kB⟩,⟨51,[.one (.sl 66),.one (.sl 66)],.one kB⟩]
noncomputable def cSm:Cf:=cf [50,51] [⟨24,0,4,(24,0),gSm⟩] rwSm
noncomputable def eSm:LId→LSt→M Rd1:=fun id L=>gSm.round PP (kitF PP cSm (callT PP cSm []) yh0 24) (lcode 24 0) L
theorem t_sm(r:Rp):callR cSm [24] 24 [dRp r,dRp r]=(M.br (r.1 != r.1) (M.pure (Rs.ret (bk false))) (M.call 50 [sl 64 (List.map dLe r.2),sl 64 (List.map dLe r.2)] [] fun d0 o0=>M.br (!D.bool d0) (M.pure (Rs.ret (bk false))) (M.call 51 [sl 66 (List.map dCa r.3),sl 66 (List.map dCa r.3)] [] fun d1 o1=>M.br (!D.bool d1) (M.pure (Rs.ret (bk false))) (M.br (nI (List.length (List.map bv r.4)) != nI (List.length (List.map bv r.4))) (M.pure (Rs.ret (bk false))) (M.loop (24,0) (ls [D.p 0 0 0,D.p 1 0 0,iv (0:Int)] [b1 27 (dRp r),b1 27 (dRp r)]) (fun L2=>M.pure (Rs.ret (bk true))) (fun L2=>M.pure (Rs.ret (bv (D.bool (vd L2 0))))) fun L2=>M.bad 154))))):=by kernel_rfl
theorem rd_sm(r:Rp)(i:Int):eSm (24,0) ⟨[.p 0 0 0,.p 1 0 0,iv i],[.arr true 27 1 [dRp r],.arr true 27 1 [dRp r]],[]⟩=(M.br (decide (i<nI (List.length (List.map bv r.4)))) (M.get (List.map bv r.4) i fun d0=>M.get (List.map bv r.4) i fun d1=>M.br (!D.bool d0 == D.bool d1) (M.pure (some 1,(ls [bv false] [b1 27 (dRp r),b1 27 (dRp r)]))) (M.pure (none,(ls [D.p 0 0 0,D.p 1 0 0,iv (w64 (i+(1:Int)))] [b1 27 (dRp r),b1 27 (dRp r)])))) (M.pure (some 0,(ls [] [b1 27 (dRp r),b1 27 (dRp r)])))):=by kernel_rfl
def conSl:Con PP:=⟨50,[.one (.sl 64),.one (.sl 64)],.one kB,fun args d=>∃ l:List Le,l.length<1000000∧args=[sl 64 (l.map dLe),sl 64 (l.map dLe)]∧d=bv true,fun args d ⟨l,hs,ha,hd⟩ h=>by subst ha;subst hd;exact sl_ok l hs h⟩
def conSc:Con PP:=⟨51,[.one (.sl 66),.one (.sl 66)],.one kB,fun args d=>∃ l:List Ca,l.length<1000000∧args=[sl 66 (l.map dCa),sl 66 (l.map dCa)]∧d=bv true,fun args d ⟨l,hs,ha,hd⟩ h=>by subst ha;subst hd;exact sc_ok l hs h⟩
theorem sm_ok(r:Rp)(hr:Sm r)(h:Heap):CallSd PP 24 [dRp r,dRp r] h (.ret (bv true)) h:=by
 refine con_of (E:=eSm) (Γ:=consΓ [conSl,conSc]) (C:=cSm) (l:=[24]) (.one kB) (show CallOk PP eSm (consΓ [conSl,conSc]) (cons PP rwSm) from cons_ok rfl) (named_loop (id0:=(24,0)) (by kernel_rfl) (by kernel_rfl) (by kernel_rfl) (fun s=>by kernel_rfl) (fun L=>rfl) (NamedT.nil (P:=PP))) rfl rfl rfl (to_wp ?_) h
 rw [t_sm]
 obtain⟨s1,s2,s3⟩:=hr
 have hlen:nI (r.od.map bv).length=(r.od.length:Int):=by rw [List.length_map]
 have hlp:∃ j L,Lp eSm (consΓ [conSl,conSc]) (24,0) ⟨[.p 0 0 0,.p 1 0 0,iv (((0:Nat)):Int)],[.arr true 27 1 [dRp r],.arr true 27 1 [dRp r]],[]⟩ j L∧j=0∧L=⟨[],[.arr true 27 1 [dRp r],.arr true 27 1 [dRp r]],[]⟩:=by
  refine lp_up (σ:=Unit) (fun i _=>⟨[.p 0 0 0,.p 1 0 0,iv ((i:Nat):Int)],[.arr true 27 1 [dRp r],.arr true 27 1 [dRp r]],[]⟩) r.od.length (fun _ _=>True) _ (fun i _ hi _=>?_) (fun _ _=>?_) (s:=()) trivial
  ·rw [rd_sm,hlen]
   have hy:=List.getElem?_eq_getElem hi
   generalize r.od[i]=y at hy
   have hg:(r.od.map bv)[((i:Nat):Int).toNat]?=some (bv y):=by
    rw [Int.toNat_natCast,List.getElem?_map,hy];rfl
   refine⟨fun _=>⟨by omega,_,hg,by omega,_,hg,fun q=>?_,fun _=>.inl ⟨(),(by rw [w64_id (by omega) (by omega)];rfl),trivial⟩⟩,fun h=>absurd (of_decide_eq_false h) (by omega)⟩
   have q:(y != y)=true:=q
   simp at q
  rw [rd_sm,hlen]
  exact⟨fun h=>absurd (of_decide_eq_true h) (by omega),fun _=>⟨0,_,rfl,rfl,rfl⟩⟩
 obtain⟨_,_,g1,rfl,rfl⟩:=hlp
 exact⟨fun q=>by simp at q,fun _=>⟨bv true,[],⟨conSl,rfl,_,⟨r.le,s1,rfl,rfl⟩,rfl⟩,(fun q=>nomatch q),fun _=>⟨bv true,[],⟨conSc,rfl,_,⟨r.ca,s2,rfl,rfl⟩,rfl⟩,(fun q=>nomatch q),fun _=>⟨fun q=>by simp at q,fun _=>.inl ⟨_,g1,_,_,rfl,rfl,rfl⟩⟩⟩⟩⟩
def conSm:Con PP:=⟨24,[kRp,kRp],.one kB,fun args d=>∃ r,Sm r∧args=[dRp r,dRp r]∧d=bv true,fun args d ⟨r,hr,ha,hd⟩ h=>by subst ha;subst hd;exact sm_ok r hr h⟩
end Z
namespace Z
def rwSp:List CRow:=[⟨17,[kRp],.tup [.one (.sl 57),kI]⟩,⟨19,[kDi],.tup [.one (.sl 57),kB]⟩,⟨20,[kI,.one (.sl 57)],.tup [kRp,kI]⟩,⟨22,[kPq,kDd],.tup [kPq,kI]⟩,⟨23,[.one (.sl 57),.one (.sl 57)],.one kB⟩,⟨24,[kRp,kRp],.one kB⟩]
noncomputable def bSp:Caller:=consB PP [⟨18,0,45,kSg,kWr,.one kB,false⟩] (cons PP rwSp)
noncomputable def cSp:Cf:={ cff (fun _=>12) [17,19,20,22,23,24] [] [18] [] []with base:=bSp }
noncomputable def cSpD:Cf:=cf [22] [] [⟨22,[kPq,kDd],.tup [kPq,kI]⟩]
def dSt5(k u a b w:D):D:=.agg [k,u,a,b,w]
abbrev gp (d:D) (i:Nat):D:=List.getD (D.parts d) i D.any
def csPq:List CK:=[.i .i64,.sl 64,.sl 66,.sl 4,.i .i64,.sl 64,.sl 66,.sl 4,.i .i64,.i .i64,.sl 64,.sl 66,.sl 66]
def diX(m:Nat)(x:D):D:=.agg [sl 57 (D.items (D.cell x (13+4*m))),sl 164 (D.items (D.cell x (14+4*m))),iv (D.int (D.cell x (15+4*m))),bv (D.bool (D.cell x (16+4*m)))]
def rpX(m:Nat)(x:D):D:=.agg [iv (D.int (D.cell x (4*m))),sl 64 (D.items (D.cell x (4*m+1))),sl 66 (D.items (D.cell x (4*m+2))),sl 4 (D.items (D.cell x (4*m+3)))]
def mkX(q x:D):D:=.agg (etaL csPq q 0++[sl 57 (D.items (D.cell x 13)),sl 164 (D.items (D.cell x 14)),iv (D.int (D.cell x 15)),bv (D.bool (D.cell x 16)),sl 57 (D.items (D.cell x 17)),sl 164 (D.items (D.cell x 18)),iv (D.int (D.cell x 19)),bv (D.bool (D.cell x 20))])
abbrev fX (x:D):M (Rs×Blk):=M.pure (Rs.ret (bk false),Blk.arr true 45 1 [etaK0 kSg x])
def spE(m:Nat)(u:Int)(x d4:D):M (Rs×Blk):=M.call 22 [etaK0 kPq d4,.agg [iv 4,iv u,iv 0,iv 0]] [] fun d6 _=>M.br (D.int (gp d6 1) != (0:Int)) (fX x) (M.pure (Rs.ret (bk true),Blk.arr true 45 1 [mkX (gp d6 0) x]))
def spT(m:Nat)(u:Int)(chk:Option Int)(x d0:D):M (Rs×Blk):=M.call 19 [diX m x] [] fun d1 _=>M.br (!D.bool (gp d1 1)) (fX x) (M.br (decide (nI (List.length (D.items (gp d1 0)))<D.int (D.cell x (8+m)))) (fX x) (M.br (decide (nI (List.length (D.items (gp d1 0)))>nI (List.length (D.items (gp d0 0))))) (fX x) (M.need (decide ((0:Int)≤(0:Int)∧(0:Int)≤nI (List.length (D.items (gp d1 0)))∧nI (List.length (D.items (gp d1 0)))≤nI (List.length (D.items (gp d0 0))))) (M.call 23 [sl 57 (D.items (gp d1 0)),sl 57 (List.take (Int.toNat (nI (List.length (D.items (gp d1 0))))) (D.items (gp d0 0)))] [] fun d2 _=>M.br (!D.bool d2) (fX x) (M.call 20 [iv u,sl 57 (D.items (gp d1 0))] [] fun d3 _=>M.call 22 [etaK0 kPq x,.agg [iv 7,iv u,iv (nI (List.length (D.items (gp d1 0)))),iv 0]] [] fun d4 _=>M.br (D.int (gp d3 1) != (0:Int)) (fX x) (M.br (D.int (gp d4 1) != (0:Int)) (fX x) (M.call 24 [rpX m (gp d4 0),etaK0 kRp (gp d3 0)] [] fun d5 _=>M.br (!D.bool d5) (fX x) (match chk with
 | none=>spE m u x (gp d4 0)
 | some w=>M.br (w == (255:Int)) (M.br (nI (List.length (D.items (gp d1 0))) != nI (List.length (D.items (gp d0 0)))) (fX x) (spE m u x (gp d4 0))) (spE m u x (gp d4 0))))))))))
def sp4(m:Nat)(u:Int)(s:Sg)(w:Int):M (Rs×Blk):=M.call 17 [rpX m (dSg s)] [] fun d0 _=>M.br (D.int (gp d0 1) != (0:Int)) (fX (dSg s)) (M.br (w == (255:Int)) (M.call 18 [D.p 0 0 0,iv u,sl 57 (D.items (gp d0 0)),iv (-1)] [(45,dSg s)] fun d1 o1=>M.br (!D.bool d1) (fX (List.getD o1 0 D.any)) (spT m u (some w) (List.getD o1 0 D.any) d0)) (M.call 18 [D.p 0 0 0,iv u,sl 57 (D.items (gp d0 0)),iv (w64 w)] [(45,dSg s)] fun d1 o1=>M.br (!D.bool d1) (fX (List.getD o1 0 D.any)) (spT m u (some w) (List.getD o1 0 D.any) d0)))
def sp7(m:Nat)(u:Int)(s:Sg):M (Rs×Blk):=M.call 17 [rpX m (dSg s)] [] fun d0 _=>M.br (D.int (gp d0 1) != (0:Int)) (fX (dSg s)) (spT m u none (dSg s) d0)
def spD(s:Sg)(k u a b:Int):M (Rs×Blk):=M.call 22 [dPq s.p,.agg [iv k,iv u,iv a,iv b]] [] fun d0 _=>M.br (D.int (gp d0 1) == (0:Int)) (M.pure (Rs.ret (bk true),Blk.arr true 45 1 [mkX (gp d0 0) (dSg s)])) (M.pure (Rs.ret (bk true),Blk.arr true 45 1 [dSg s]))
abbrev spB (u:Int):M (Rs×Blk):=M.br (decide (u=nI 0)) (M.bad 210) (M.br (decide (u=nI 1)) (M.bad 210) (M.need false (M.bad 42)))
theorem t_spd(s:Sg)(k u a b w:Int):callRB cSpD [9] 9 [dSt5 (iv k) (iv u) (iv a) (iv b) (u8 w)] 0 1 45 (dSg s)=M.br (decide (u<(0:Int))) (spD s k u a b) (M.br (decide (u>(1:Int))) (spD s k u a b) (M.br (k != (4:Int)) (M.br (k != (7:Int)) (spD s k u a b) (spB u)) (spB u))):=by kernel_rfl
theorem t_sp07(s:Sg)(a b w:Int):callRB cSp [9] 9 [dSt5 (ik 7) (ik 0) (iv a) (iv b) (u8 w)] 0 1 45 (dSg s)=sp7 0 0 s:=by kernel_rfl
theorem t_sp04(s:Sg)(a b w:Int):callRB cSp [9] 9 [dSt5 (ik 4) (ik 0) (iv a) (iv b) (u8 w)] 0 1 45 (dSg s)=sp4 0 0 s w:=by kernel_rfl
theorem t_sp17(s:Sg)(a b w:Int):callRB cSp [9] 9 [dSt5 (ik 7) (ik 1) (iv a) (iv b) (u8 w)] 0 1 45 (dSg s)=sp7 1 1 s:=by kernel_rfl
theorem t_sp14(s:Sg)(a b w:Int):callRB cSp [9] 9 [dSt5 (ik 4) (ik 1) (iv a) (iv b) (u8 w)] 0 1 45 (dSg s)=sp4 1 1 s w:=by kernel_rfl
theorem synB_mono{E:List En}{a b:Int}{hit:En→Bool}(h:synB E a hit=true)(hab:a≤b):synB E b hit=true:=by
 unfold synB at h ⊢
 obtain⟨x,h1,h2⟩:=List.any_eq_true.1 h
 exact List.any_eq_true.2 ⟨x,(List.take_prefix_take_left (l:=E) (show a.toNat≤b.toNat by omega)).subset h1,h2⟩
theorem synB_take{E:List En}{a:Int}{n:Nat}{hit:En→Bool}(h:a≤n):synB (E.take n) a hit=synB E a hit:=by
 unfold synB
 rw [List.take_take,Nat.min_eq_left (by omega)]
def recsE(E:List En):List (List D):=E.map fun x=>eL (recL x)
theorem rcs_recs(E:List En):(rcsE E).map recD=(recsE E).map dSe:=by
 unfold rcsE recsE
 rw [List.map_map,List.map_map];rfl
theorem eU_by(n:Int):By (eU n)∧(eU n).length≤2:=by
 have h8:∀ x:Int,∃ m:Nat,m<256∧u8 (IntKind.wrap .u8 x)=u8 m:=fun x=>by
  obtain⟨m,h1,h2⟩:=wrap8 x
  exact⟨m,h1,by rw [h2]⟩
 unfold eU
 split
 ·refine⟨fun d hd=>?_,Nat.le_refl _⟩
  simp only [List.mem_cons,List.not_mem_nil,or_false]at hd
  rcases hd with rfl|rfl
  ·exact h8 _
  exact h8 _
 refine⟨fun d hd=>?_,by simp⟩
 rw [List.mem_singleton.1 hd]
 exact h8 _
theorem eL_by{l:List Int}(hl:l.length≤4):By (eL l)∧(eL l).length≤50:=by
 have key:∀ l:List Int,By (l.flatMap fun n=>u8 1::eU (2*n))∧(l.flatMap fun n=>u8 1::eU (2*n)).length≤3*l.length:=by
  intro l
  induction l with
  | nil=>exact⟨by_nil,Nat.le_refl _⟩
  | cons x l ih =>
   rw [List.flatMap_cons]
   have:=eU_by (2*x)
   refine⟨by_app (by_cons (n:=1) (by decide) this.1) ih.1,?_⟩
   have h2:=this.2
   have h3:=ih.2
   simp only [List.length_append,List.length_cons]
   omega
 obtain⟨k1,k2⟩:=key l
 refine⟨by_cons (n:=3) (by decide) (by_cons (n:=l.length) (by omega) k1),?_⟩
 unfold eL
 simp only [List.length_cons]
 omega
theorem recs_by{s:Int}{E:List En}(hv:VE s E):∀ b∈recsE E,By b∧b.length≤50:=fun b hb=>by
 obtain⟨x,hx,rfl⟩:=List.mem_map.1 hb
 refine eL_by ?_
 have:=ve_rec hv hx
 generalize recL x=r at this
 cases this<;>simp
theorem recs_len(E:List En):(recsE E).length=E.length:=List.length_map ..
theorem recs_take(E:List En)(n:Nat):recsE (E.take n)=(recsE E).take n:=List.map_take
theorem od_len(s:Int)(E:List En):(((ofE s E).od.map bv).length:Int)=(E.length:Int):=by
 rw [List.length_map];show(((odE E).length:Nat):Int)=_;rw [odE_len]
def conR3:Con PP:=⟨19,[kDi],.tup [.one (.sl 57),kB],fun args r=>∃ d gs rest,DJ (rstD d) gs rest∧VvD d∧(∀ x∈gs,x.2.map D.vv=x.2)∧args=[dDi d]∧r=.tup [sl 57 (recsD gs),bv true],fun args r ⟨d,gs,rest,hd,hv,hg,ha,hr⟩ h=>by subst ha;subst hr;exact r3_ok d gs rest hd hv hg h⟩
abbrev conSp:List (Con PP):=[conRcs,conR3,conLoa,conDo,conSr,conSm]
abbrev gSp:Cn:=consΓB [conWr] (consΓ conSp)
theorem bSp_ok{E:LId→LSt→M Rd1}:CallOk PP E gSp cSp.base:=show CallOk PP E gSp bSp from consB_ok (m:=rwSp) (mb:=[⟨18,0,45,kSg,kWr,.one kB,false⟩]) (l:=conSp) (lb:=[conWr]) rfl rfl
theorem vp_crash0{p:Pq}{E0 E1:List En}(hv:VP p E0 E1){n:Nat}(h1:p.s0≤n)(h2:n≤E0.length):VP { p with r0:=ofE 0 (E0.take n) } (E0.take n) E1:=by
 have hn:0<n:=by have:=hv.y0;omega
 have hl:(E0.take n).length=n:=by rw [List.length_take];omega
 have hs:∀ hit,synB (E0.take n) p.s0 hit=synB E0 p.s0 hit:=fun hit=>synB_take h1
 have hy:=hv.y0
 exact { hv with v0:=ve_take hv.v0 hn,e0:=rfl,y0:=⟨hy.1,by rw [hl];exact h1⟩,k0:=fun c hc=>(hs _).trans (hv.k0 c hc),tl:=fun l hl=>by simp only [hs];exact hv.tl l hl }
theorem vp_sync0{p:Pq}{E0 E1:List En}(hv:VP p E0 E1):VP { p with s0:=E0.length } E0 E1:=by
 have hy:=hv.y0
 refine { hv with y0:=⟨by show(1:Int)≤(E0.length:Int);omega,Int.le_refl _⟩,k0:=fun c hc=>synB_mono (hv.k0 c hc) hy.2,tl:=fun l hl=>?_ }
 rcases hv.tl l hl with h|h
 ·first|exact .inl (synB_mono h hy.2)|exact .inl h
 first|exact .inr (synB_mono h hy.2)|exact .inr h
theorem vp_crash1{p:Pq}{E0 E1:List En}(hv:VP p E0 E1){n:Nat}(h1:p.s1≤n)(h2:n≤E1.length):VP { p with r1:=ofE 1 (E1.take n) } E0 (E1.take n):=by
 have hn:0<n:=by have:=hv.y1;omega
 have hl:(E1.take n).length=n:=by rw [List.length_take];omega
 have hs:∀ hit,synB (E1.take n) p.s1 hit=synB E1 p.s1 hit:=fun hit=>synB_take h1
 have hy:=hv.y1
 exact { hv with v1:=ve_take hv.v1 hn,e1:=rfl,y1:=⟨hy.1,by rw [hl];exact h1⟩,k1:=fun c hc=>(hs _).trans (hv.k1 c hc),tl:=fun l hl=>by simp only [hs];exact hv.tl l hl }
theorem vp_sync1{p:Pq}{E0 E1:List En}(hv:VP p E0 E1):VP { p with s1:=E1.length } E0 E1:=by
 have hy:=hv.y1
 refine { hv with y1:=⟨by show(1:Int)≤(E1.length:Int);omega,Int.le_refl _⟩,k1:=fun c hc=>synB_mono (hv.k1 c hc) hy.2,tl:=fun l hl=>?_ }
 rcases hv.tl l hl with h|h
 ·first|exact .inl (synB_mono h hy.2)|exact .inl h
 first|exact .inr (synB_mono h hy.2)|exact .inr h
def crashP0(p:Pq)(E:List En)(n:Nat):Pq:={ p with r0:=ofE 0 (E.take n),s0:=n }
theorem vp_cr0{p:Pq}{E0 E1:List En}(hv:VP p E0 E1){n:Nat}(h1:p.s0≤n)(h2:n≤E0.length):VP (crashP0 p E0 n) (E0.take n) E1:=by
 have h3:=vp_sync0 (vp_crash0 hv h1 h2)
 have hl:(E0.take n).length=n:=by rw [List.length_take];omega
 rw [hl]at h3
 exact h3
theorem sp_core0(s:Sg)(E0 E1:List En)(hv:VP s.p E0 E1)(n:Nat)(h1:s.p.s0≤n)(h2:n≤E0.length)(gs:List (Nat×List D))(K:Nat)(hd:DSd s.d0 gs K)(hg:gs.map (·.2)=recsE (E0.take n))(chk:Option Int)(hc:chk=some 255→n=E0.length)(Q:Rs×Blk→Prop)(hQ:Q (.ret (bk true),.arr true 45 1 [dSg { s with p:=crashP0 s.p E0 n }])):Wp Z.E0 gSp (spT 0 0 chk (dSg s) (.tup [sl 57 ((recsE E0).map dSe),iv 0])) Q:=by
 have hy:=hv.y0
 have hsm:=hv.v0.sm
 have hl:(E0.take n).length=n:=by rw [List.length_take];omega
 have hn1:nI ((recsE (E0.take n)).map dSe).length=(n:Int):=by rw [List.length_map,recs_len,hl]
 have hn2:nI ((recsE E0).map dSe).length=(E0.length:Int):=by rw [List.length_map,recs_len]
 have hrd:recsD gs=(recsE (E0.take n)).map dSe:=by rw [← hg,List.map_map];rfl
 have hvg:∀ x∈gs,x.2.map D.vv=x.2:=fun x hx=>by_vv (hd.ds.ok x hx).1.2.2.1
 have hv1:=vp_crash0 hv h1 h2
 have hdo1:doP s.p E0 E1 7 0 n 0=({ s.p with r0:=ofE 0 (E0.take n) },0):=by
  unfold doP
  rw [if_pos rfl]
  unfold doP0
  rw [if_pos rfl,if_pos ⟨h1,by omega⟩,Int.toNat_natCast]
 have hdo2:doP { s.p with r0:=ofE 0 (E0.take n) } (E0.take n) E1 4 0 0 0=(crashP0 s.p E0 n,0):=by
  unfold doP
  rw [if_pos rfl]
  unfold doP0
  rw [if_neg (by decide),if_neg (by decide),if_neg (by decide),if_pos rfl]
  show(({ s.p with r0:=ofE 0 (E0.take n),s0:=(((ofE 0 (E0.take n)).od.map bv).length:Int) }:Pq),(0:Int))=_
  rw [od_len,hl];rfl
 have hend:Wp Z.E0 gSp (spE 0 0 (dSg s) (dPq { s.p with r0:=ofE 0 (E0.take n) })) Q:=by
  refine⟨.tup [dPq (crashP0 s.p E0 n),iv 0],[],.inl ⟨rfl,conDo,rfl,_,⟨{ s.p with r0:=ofE 0 (E0.take n) },_,_,4,0,0,0,hv1,rfl,?_⟩,rfl⟩,(fun q=>nomatch q),fun _=>hQ⟩
  rw [hdo2]
 unfold spT
 refine⟨.tup [sl 57 ((recsE (E0.take n)).map dSe),bv true],[],.inl ⟨rfl,conR3,rfl,_,⟨s.d0,gs,_,hd.dj,hd.vv,hvg,rfl,by rw [hrd]⟩,rfl⟩,(fun q=>nomatch q),fun _=>⟨fun q=>?_,fun _=>⟨fun q=>?_,fun _=>⟨?_,bv true,[],.inl ⟨rfl,conSr,rfl,_,⟨recsE (E0.take n),by rw [recs_len,hl];omega,?_,rfl⟩,rfl⟩,(fun q=>nomatch q),fun _=>⟨.tup [dRp (ofE 0 (E0.take n)),iv 0],[],.inl ⟨rfl,conLoa,rfl,_,⟨0,E0.take n,hv1.v0,?_,rfl⟩,rfl⟩,.tup [dPq { s.p with r0:=ofE 0 (E0.take n) },iv 0],[],.inl ⟨rfl,conDo,rfl,_,⟨s.p,E0,E1,7,0,n,0,hv,?_,by rw [hdo1]⟩,rfl⟩,(fun q=>nomatch q),fun _=>⟨(fun q=>nomatch q),fun _=>⟨bv true,[],.inl ⟨rfl,conSm,rfl,_,⟨ofE 0 (E0.take n),sm_of (by rw [hl];omega),rfl,rfl⟩,rfl⟩,(fun q=>nomatch q),fun _=>?_⟩⟩⟩⟩⟩⟩⟩
 ·have q:nI ((recsE (E0.take n)).map dSe).length<s.p.s0:=of_decide_eq_true q
  rw [hn1]at q;omega
 ·have q:nI ((recsE (E0.take n)).map dSe).length>nI ((recsE E0).map dSe).length:=of_decide_eq_true q
  rw [hn1,hn2]at q;omega
 ·refine decide_eq_true (show(0:Int)≤0∧(0:Int)≤nI ((recsE (E0.take n)).map dSe).length∧nI ((recsE (E0.take n)).map dSe).length≤nI ((recsE E0).map dSe).length from ?_)
  rw [hn1,hn2];omega
 ·show [sl 57 ((recsE (E0.take n)).map dSe),sl 57 (List.take (Int.toNat (nI ((recsE (E0.take n)).map dSe).length)) ((recsE E0).map dSe))]=_
  rw [hn1,Int.toNat_natCast,← List.map_take,recs_take]
 ·rw [rcs_recs];rfl
 ·show [dPq s.p,D.agg [iv 7,iv 0,iv (nI ((recsE (E0.take n)).map dSe).length),iv 0]]=_
  rw [hn1]
 cases chk with
 | none=>exact hend
 | some w =>
  refine⟨fun q=>⟨fun q2=>?_,fun _=>hend⟩,fun _=>hend⟩
  have q:w=255:=by simpa using q
  have q2:(nI ((recsE (E0.take n)).map dSe).length != nI ((recsE E0).map dSe).length)=true:=q2
  rw [hn1,hn2,hc (by rw [q])]at q2
  simp at q2
def crashP1(p:Pq)(E:List En)(n:Nat):Pq:={ p with r1:=ofE 1 (E.take n),s1:=n }
theorem vp_cr1{p:Pq}{E0 E1:List En}(hv:VP p E0 E1){n:Nat}(h1:p.s1≤n)(h2:n≤E1.length):VP (crashP1 p E1 n) E0 (E1.take n):=by
 have h3:=vp_sync1 (vp_crash1 hv h1 h2)
 have hl:(E1.take n).length=n:=by rw [List.length_take];omega
 rw [hl]at h3
 exact h3
theorem sp_core1(s:Sg)(E0 E1:List En)(hv:VP s.p E0 E1)(n:Nat)(h1:s.p.s1≤n)(h2:n≤E1.length)(gs:List (Nat×List D))(K:Nat)(hd:DSd s.d1 gs K)(hg:gs.map (·.2)=recsE (E1.take n))(chk:Option Int)(hc:chk=some 255→n=E1.length)(Q:Rs×Blk→Prop)(hQ:Q (.ret (bk true),.arr true 45 1 [dSg { s with p:=crashP1 s.p E1 n }])):Wp Z.E0 gSp (spT 1 1 chk (dSg s) (.tup [sl 57 ((recsE E1).map dSe),iv 0])) Q:=by
 have hy:=hv.y1
 have hsm:=hv.v1.sm
 have hl:(E1.take n).length=n:=by rw [List.length_take];omega
 have hn1:nI ((recsE (E1.take n)).map dSe).length=(n:Int):=by rw [List.length_map,recs_len,hl]
 have hn2:nI ((recsE E1).map dSe).length=(E1.length:Int):=by rw [List.length_map,recs_len]
 have hrd:recsD gs=(recsE (E1.take n)).map dSe:=by rw [← hg,List.map_map];rfl
 have hvg:∀ x∈gs,x.2.map D.vv=x.2:=fun x hx=>by_vv (hd.ds.ok x hx).1.2.2.1
 have hv1:=vp_crash1 hv h1 h2
 have hdo1:doP s.p E0 E1 7 1 n 0=({ s.p with r1:=ofE 1 (E1.take n) },0):=by
  unfold doP
  rw [if_neg (by decide),if_pos rfl]
  unfold doP1
  rw [if_pos rfl,if_pos ⟨h1,by omega⟩,Int.toNat_natCast]
 have hdo2:doP { s.p with r1:=ofE 1 (E1.take n) } E0 (E1.take n) 4 1 0 0=(crashP1 s.p E1 n,0):=by
  unfold doP
  rw [if_neg (by decide),if_pos rfl]
  unfold doP1
  rw [if_neg (by decide),if_neg (by decide),if_neg (by decide),if_pos rfl]
  show(({ s.p with r1:=ofE 1 (E1.take n),s1:=(((ofE 1 (E1.take n)).od.map bv).length:Int) }:Pq),(0:Int))=_
  rw [od_len,hl];rfl
 have hend:Wp Z.E0 gSp (spE 1 1 (dSg s) (dPq { s.p with r1:=ofE 1 (E1.take n) })) Q:=by
  refine⟨.tup [dPq (crashP1 s.p E1 n),iv 0],[],.inl ⟨rfl,conDo,rfl,_,⟨{ s.p with r1:=ofE 1 (E1.take n) },_,_,4,1,0,0,hv1,rfl,?_⟩,rfl⟩,(fun q=>nomatch q),fun _=>hQ⟩
  rw [hdo2]
 unfold spT
 refine⟨.tup [sl 57 ((recsE (E1.take n)).map dSe),bv true],[],.inl ⟨rfl,conR3,rfl,_,⟨s.d1,gs,_,hd.dj,hd.vv,hvg,rfl,by rw [hrd]⟩,rfl⟩,(fun q=>nomatch q),fun _=>⟨fun q=>?_,fun _=>⟨fun q=>?_,fun _=>⟨?_,bv true,[],.inl ⟨rfl,conSr,rfl,_,⟨recsE (E1.take n),by rw [recs_len,hl];omega,?_,rfl⟩,rfl⟩,(fun q=>nomatch q),fun _=>⟨.tup [dRp (ofE 1 (E1.take n)),iv 0],[],.inl ⟨rfl,conLoa,rfl,_,⟨1,E1.take n,hv1.v1,?_,rfl⟩,rfl⟩,.tup [dPq { s.p with r1:=ofE 1 (E1.take n) },iv 0],[],.inl ⟨rfl,conDo,rfl,_,⟨s.p,E0,E1,7,1,n,0,hv,?_,by rw [hdo1]⟩,rfl⟩,(fun q=>nomatch q),fun _=>⟨(fun q=>nomatch q),fun _=>⟨bv true,[],.inl ⟨rfl,conSm,rfl,_,⟨ofE 1 (E1.take n),sm_of (by rw [hl];omega),rfl,rfl⟩,rfl⟩,(fun q=>nomatch q),fun _=>?_⟩⟩⟩⟩⟩⟩⟩
 ·have q:nI ((recsE (E1.take n)).map dSe).length<s.p.s1:=of_decide_eq_true q
  rw [hn1]at q;omega
 ·have q:nI ((recsE (E1.take n)).map dSe).length>nI ((recsE E1).map dSe).length:=of_decide_eq_true q
  rw [hn1,hn2]at q;omega
 ·refine decide_eq_true (show(0:Int)≤0∧(0:Int)≤nI ((recsE (E1.take n)).map dSe).length∧nI ((recsE (E1.take n)).map dSe).length≤nI ((recsE E1).map dSe).length from ?_)
  rw [hn1,hn2];omega
 ·show [sl 57 ((recsE (E1.take n)).map dSe),sl 57 (List.take (Int.toNat (nI ((recsE (E1.take n)).map dSe).length)) ((recsE E1).map dSe))]=_
  rw [hn1,Int.toNat_natCast,← List.map_take,recs_take]
 ·rw [rcs_recs];rfl
 ·show [dPq s.p,D.agg [iv 7,iv 1,iv (nI ((recsE (E1.take n)).map dSe).length),iv 0]]=_
  rw [hn1]
 cases chk with
 | none=>exact hend
 | some w =>
  refine⟨fun q=>⟨fun q2=>?_,fun _=>hend⟩,fun _=>hend⟩
  have q:w=255:=by simpa using q
  have q2:(nI ((recsE (E1.take n)).map dSe).length != nI ((recsE E1).map dSe).length)=true:=q2
  rw [hn1,hn2,hc (by rw [q])]at q2
  simp at q2
end Z
namespace Z
def rwNv:List CRow:=[⟨19,[kDi],.tup [.one (.sl 57),kB]⟩,⟨20,[kI,.one (.sl 57)],.tup [kRp,kI]⟩,⟨21,[.one (.sl 64),kLe],.one kB⟩]
def kK2:SK0:=.row [.i .i64,.sl 64,.sl 66,.sl 4,.i .i64,.sl 64,.sl 66,.sl 4]
def nNv:List (Nat×BK):=[(0,.each 45 1 [.el kSg]),(1,.each 28 1 [.el kK2])]
def pNv:List (Tmp×SK):=[(0,.fix (.p 0 0 0)),(3,.fix (.p 1 0 0))]
def gNv2:LCfg:=⟨168,8,8,⟨pNv++[(58,.el (.one (.sl 64))),(59,sI),(60,sI)],nNv⟩,[(.exit 2,⟨pNv,nNv⟩)]⟩
def nNv4:List (Nat×BK):=nNv++[(8,.map 80)]
def pNv4(i:Int):List (Tmp×SK):=pNv++[(11,.fix (.mp 8)),(12,.fix (ik i)),(80,.fix (ik i))]
def pNv5(i:Int):List (Tmp×SK):=pNv4 i++[(89,.el (.one (.sl 66))),(90,sI),(91,sI)]
def gNv4(i:Int):LCfg:=⟨168,9,9,⟨pNv5 i,nNv4⟩,[(.exit 6,⟨pNv4 i,nNv4⟩)]⟩
def nNv5:List (Nat×BK):=nNv4++[(9,.each 66 1 [.el kCa])]
def qNv5(i:Int):List (Tmp×SK):=pNv5 i++[(14,.fix (.p 9 0 0)),(15,.el kB)]
def gNv5(i:Int):LCfg:=⟨168,10,10,⟨qNv5 i++[(98,.el (.one (.sl 66))),(99,sI),(100,sI)],nNv5⟩,[(.exit 8,⟨qNv5 i,nNv5⟩)]⟩
def nNv6:List (Nat×BK):=[(0,.each 45 1 [.el kSg]),(9,.map 82)]
def pNv6:List (Tmp×SK):=[(0,.fix (.p 0 0 0)),(20,.fix (.mp 9))]
def gNv6:LCfg:=⟨168,10,10,⟨pNv6++[(141,.el (.one (.sl 66))),(142,sI),(143,sI)],nNv6⟩,[(.exit 10,⟨pNv6,nNv6⟩)]⟩
def gNv7:LCfg:=⟨168,10,10,⟨[(20,.fix (.mp 9)),(157,.el (.one (.sl 66))),(158,sI),(159,sI)],nNv6⟩,[(.exit 12,⟨[],nNv6⟩)]⟩
def isZ:D→Bool
 | .k (.int _ n)=>n == 0
 | _=>false
noncomputable def cNv:Cf:={ cf [19,20,21] [] rwNv with find:=fun f tag c s=>if f=8 then(match fstReg c with
 | 12=>some ((8,1),gNv2)
 | 22=>(match isZ (s.ts.getD 12 .any)with|true=>some ((8,2),gNv4 0)|false=>some ((8,3),gNv4 1))
 | 26=>(match isZ (s.ts.getD 12 .any)with|true=>some ((8,4),gNv5 0)|false=>some ((8,5),gNv5 1))
 | 38=>some ((8,6),gNv6)
 | 43=>some ((8,7),gNv7)
 | _=>none)else none }
noncomputable def eNv:LId→LSt→M Rd1:=fun id L=>if id=(8,1)then gNv2.round PP (kitF PP cNv (callT PP cNv []) yh0 8) (lcode 8 1) L else if id=(8,2)then(gNv4 0).round PP (kitF PP cNv (callT PP cNv []) yh0 8) (lcode 8 3) L else if id=(8,3)then(gNv4 1).round PP (kitF PP cNv (callT PP cNv []) yh0 8) (lcode 8 3) L else if id=(8,4)then(gNv5 0).round PP (kitF PP cNv (callT PP cNv []) yh0 8) (lcode 8 4) L else if id=(8,5)then(gNv5 1).round PP (kitF PP cNv (callT PP cNv []) yh0 8) (lcode 8 4) L else if id=(8,6)then gNv6.round PP (kitF PP cNv (callT PP cNv []) yh0 8) (lcode 8 5) L else gNv7.round PP (kitF PP cNv (callT PP cNv []) yh0 8) (lcode 8 6) L
def dK2(q r:Rp):D:=.agg [iv q.self,sl 64 (q.le.map dLe),sl 66 (q.ca.map dCa),sl 4 (q.od.map bv),iv r.self,sl 64 (r.le.map dLe),sl 66 (r.ca.map dCa),sl 4 (r.od.map bv)]
abbrev bNv (s:Sg) (q r:Rp):List Blk:=[.arr true 45 1 [dSg s],.arr true 28 1 [dK2 q r]]
abbrev pN4 (i:Int) (l:List D) (n j:Int):List D:=[.p 0 0 0,.p 1 0 0,.mp 8,ik i,ik i,sl 66 l,iv n,iv j]
theorem rd_nv1(s:Sg)(q r:Rp)(l:List D)(n j:Int):eNv (8,1) ⟨[.p 0 0 0,.p 1 0 0,sl 64 l,iv n,iv j],bNv s q r,[]⟩=(M.br (decide (j<n)) (M.get l j fun d0=>M.call 21 [sl 64 (List.map dLe q.2),D.agg [iv (D.int (D.cell d0 0)),iv (D.int (D.cell d0 1)),iv (D.int (D.cell d0 2))]] [] fun d1 o1=>M.br (!D.bool d1) (M.call 21 [sl 64 (List.map dLe r.2),D.agg [iv (D.int (D.cell d0 0)),iv (D.int (D.cell d0 1)),iv (D.int (D.cell d0 2))]] [] fun d2 o2=>M.br (!D.bool d2) (M.bad 151) (M.pure (none,(ls [D.p 0 0 0,D.p 1 0 0,sl 64 l,iv n,iv (w64 (j+(1:Int)))] [Blk.arr true 45 1 [dSg s],Blk.arr true 28 1 [D.agg [iv q.1,sl 64 (List.map dLe q.2),sl 66 (List.map dCa q.3),sl 4 (List.map bv q.4),iv r.1,sl 64 (List.map dLe r.2),sl 66 (List.map dCa r.3),sl 4 (List.map bv r.4)]]])))) (M.pure (none,(ls [D.p 0 0 0,D.p 1 0 0,sl 64 l,iv n,iv (w64 (j+(1:Int)))] [Blk.arr true 45 1 [dSg s],Blk.arr true 28 1 [D.agg [iv q.1,sl 64 (List.map dLe q.2),sl 66 (List.map dCa q.3),sl 4 (List.map bv q.4),iv r.1,sl 64 (List.map dLe r.2),sl 66 (List.map dCa r.3),sl 4 (List.map bv r.4)]]])))) (M.pure (some 0,(ls [D.p 0 0 0,D.p 1 0 0] [Blk.arr true 45 1 [dSg s],Blk.arr true 28 1 [D.agg [iv q.1,sl 64 (List.map dLe q.2),sl 66 (List.map dCa q.3),sl 4 (List.map bv q.4),iv r.1,sl 64 (List.map dLe r.2),sl 66 (List.map dCa r.3),sl 4 (List.map bv r.4)]]])))):=by kernel_rfl
theorem rd_nv2(s:Sg)(q r:Rp)(es:List (Int×D))(l:List D)(n j:Int):eNv (8,2) ⟨pN4 0 l n j,bNv s q r++[.map false 80 es],[]⟩=(M.br (decide (j<n)) (M.get l j fun d0=>M.loop (8,4) (ls [D.p 0 0 0,D.p 1 0 0,D.mp 8,ik (0:Int),ik (0:Int),sl 66 l,iv n,iv j,D.p 9 0 0,bv false,sl 66 (List.map dCa q.3),iv (nI (List.length (List.map dCa q.3))),iv (0:Int)] [Blk.arr true 45 1 [dSg s],Blk.arr true 28 1 [D.agg [iv q.1,sl 64 (List.map dLe q.2),sl 66 (List.map dCa q.3),sl 4 (List.map bv q.4),iv r.1,sl 64 (List.map dLe r.2),sl 66 (List.map dCa r.3),sl 4 (List.map bv r.4)]],Blk.map false 80 es,Blk.arr true 66 1 [D.agg [iv (D.int (D.cell d0 0)),iv (D.int (D.cell d0 1))]]]) (fun L1=>M.br (Option.isSome (look (Blk.es (List.getD (LSt.bs L1) 2 Blk.dead)) (D.int (D.cell (vb L1 3) 0)))) (M.br (!D.bool (vd L1 9)) (M.bad 151) (M.br (!(decide (D.int (D.cell (vb L1 3) 0)=D.int (D.cell (Option.getD (look (Blk.es (List.getD (LSt.bs L1) 2 Blk.dead)) (D.int (D.cell (vb L1 3) 0))) D.any) 0)) && (decide (D.int (D.cell (vb L1 3) 1)=D.int (D.cell (Option.getD (look (Blk.es (List.getD (LSt.bs L1) 2 Blk.dead)) (D.int (D.cell (vb L1 3) 0))) D.any) 1)) && true))) (M.bad 151) (M.pure (none,(ls [D.p 0 0 0,D.p 1 0 0,D.mp 8,ik (0:Int),ik (0:Int),sl 66 (D.items (vd L1 5)),iv (D.int (vd L1 6)),iv (w64 (D.int (vd L1 7)+(1:Int)))] [Blk.arr true 45 1 [etaK0 kSg (vb L1 0)],Blk.arr true 28 1 [etaK0 kK2 (vb L1 1)],Blk.map false 80 ((D.int (D.cell (vb L1 3) 0),D.agg [iv (D.int (D.cell (vb L1 3) 0)),iv (D.int (D.cell (vb L1 3) 1))])::Blk.es (List.getD (LSt.bs L1) 2 Blk.dead))]))))) (M.br (!D.bool (vd L1 9)) (M.bad 151) (M.pure (none,(ls [D.p 0 0 0,D.p 1 0 0,D.mp 8,ik (0:Int),ik (0:Int),sl 66 (D.items (vd L1 5)),iv (D.int (vd L1 6)),iv (w64 (D.int (vd L1 7)+(1:Int)))] [Blk.arr true 45 1 [etaK0 kSg (vb L1 0)],Blk.arr true 28 1 [etaK0 kK2 (vb L1 1)],Blk.map false 80 ((D.int (D.cell (vb L1 3) 0),D.agg [iv (D.int (D.cell (vb L1 3) 0)),iv (D.int (D.cell (vb L1 3) 1))])::Blk.es (List.getD (LSt.bs L1) 2 Blk.dead))]))))) (fun L1=>M.bad 154) fun L1=>M.bad 154) (M.pure (some 0,(ls [D.p 0 0 0,D.p 1 0 0,D.mp 8,ik (0:Int),ik (0:Int)] [Blk.arr true 45 1 [dSg s],Blk.arr true 28 1 [D.agg [iv q.1,sl 64 (List.map dLe q.2),sl 66 (List.map dCa q.3),sl 4 (List.map bv q.4),iv r.1,sl 64 (List.map dLe r.2),sl 66 (List.map dCa r.3),sl 4 (List.map bv r.4)]],Blk.map false 80 es])))):=by kernel_rfl
theorem rd_nv3(s:Sg)(q r:Rp)(es:List (Int×D))(l:List D)(n j:Int):eNv (8,3) ⟨pN4 1 l n j,bNv s q r++[.map false 80 es],[]⟩=(M.br (decide (j<n)) (M.get l j fun d0=>M.loop (8,5) (ls [D.p 0 0 0,D.p 1 0 0,D.mp 8,ik (1:Int),ik (1:Int),sl 66 l,iv n,iv j,D.p 9 0 0,bv false,sl 66 (List.map dCa r.3),iv (nI (List.length (List.map dCa r.3))),iv (0:Int)] [Blk.arr true 45 1 [dSg s],Blk.arr true 28 1 [D.agg [iv q.1,sl 64 (List.map dLe q.2),sl 66 (List.map dCa q.3),sl 4 (List.map bv q.4),iv r.1,sl 64 (List.map dLe r.2),sl 66 (List.map dCa r.3),sl 4 (List.map bv r.4)]],Blk.map false 80 es,Blk.arr true 66 1 [D.agg [iv (D.int (D.cell d0 0)),iv (D.int (D.cell d0 1))]]]) (fun L1=>M.br (Option.isSome (look (Blk.es (List.getD (LSt.bs L1) 2 Blk.dead)) (D.int (D.cell (vb L1 3) 0)))) (M.br (!D.bool (vd L1 9)) (M.bad 151) (M.br (!(decide (D.int (D.cell (vb L1 3) 0)=D.int (D.cell (Option.getD (look (Blk.es (List.getD (LSt.bs L1) 2 Blk.dead)) (D.int (D.cell (vb L1 3) 0))) D.any) 0)) && (decide (D.int (D.cell (vb L1 3) 1)=D.int (D.cell (Option.getD (look (Blk.es (List.getD (LSt.bs L1) 2 Blk.dead)) (D.int (D.cell (vb L1 3) 0))) D.any) 1)) && true))) (M.bad 151) (M.pure (none,(ls [D.p 0 0 0,D.p 1 0 0,D.mp 8,ik (1:Int),ik (1:Int),sl 66 (D.items (vd L1 5)),iv (D.int (vd L1 6)),iv (w64 (D.int (vd L1 7)+(1:Int)))] [Blk.arr true 45 1 [etaK0 kSg (vb L1 0)],Blk.arr true 28 1 [etaK0 kK2 (vb L1 1)],Blk.map false 80 ((D.int (D.cell (vb L1 3) 0),D.agg [iv (D.int (D.cell (vb L1 3) 0)),iv (D.int (D.cell (vb L1 3) 1))])::Blk.es (List.getD (LSt.bs L1) 2 Blk.dead))]))))) (M.br (!D.bool (vd L1 9)) (M.bad 151) (M.pure (none,(ls [D.p 0 0 0,D.p 1 0 0,D.mp 8,ik (1:Int),ik (1:Int),sl 66 (D.items (vd L1 5)),iv (D.int (vd L1 6)),iv (w64 (D.int (vd L1 7)+(1:Int)))] [Blk.arr true 45 1 [etaK0 kSg (vb L1 0)],Blk.arr true 28 1 [etaK0 kK2 (vb L1 1)],Blk.map false 80 ((D.int (D.cell (vb L1 3) 0),D.agg [iv (D.int (D.cell (vb L1 3) 0)),iv (D.int (D.cell (vb L1 3) 1))])::Blk.es (List.getD (LSt.bs L1) 2 Blk.dead))]))))) (fun L1=>M.bad 154) fun L1=>M.bad 154) (M.pure (some 0,(ls [D.p 0 0 0,D.p 1 0 0,D.mp 8,ik (1:Int),ik (1:Int)] [Blk.arr true 45 1 [dSg s],Blk.arr true 28 1 [D.agg [iv q.1,sl 64 (List.map dLe q.2),sl 66 (List.map dCa q.3),sl 4 (List.map bv q.4),iv r.1,sl 64 (List.map dLe r.2),sl 66 (List.map dCa r.3),sl 4 (List.map bv r.4)]],Blk.map false 80 es])))):=by kernel_rfl
theorem rd_nv4(s:Sg)(q r:Rp)(es:List (Int×D))(l m:List D)(n j y t:Int)(f:Bool)(c:Ca):eNv (8,4) ⟨pN4 0 l n j++[.p 9 0 0,bv f,sl 66 m,iv y,iv t],bNv s q r++[.map false 80 es,.arr true 66 1 [dCa c]],[]⟩=(M.br (decide (t<y)) (M.get m t fun d0=>M.br f (M.pure (none,(ls [D.p 0 0 0,D.p 1 0 0,D.mp 8,ik (0:Int),ik (0:Int),sl 66 l,iv n,iv j,D.p 9 0 0,bv true,sl 66 m,iv y,iv (w64 (t+(1:Int)))] [Blk.arr true 45 1 [dSg s],Blk.arr true 28 1 [D.agg [iv q.1,sl 64 (List.map dLe q.2),sl 66 (List.map dCa q.3),sl 4 (List.map bv q.4),iv r.1,sl 64 (List.map dLe r.2),sl 66 (List.map dCa r.3),sl 4 (List.map bv r.4)]],Blk.map false 80 es,Blk.arr true 66 1 [D.agg [iv c.1,iv c.2]]]))) (M.pure (none,(ls [D.p 0 0 0,D.p 1 0 0,D.mp 8,ik (0:Int),ik (0:Int),sl 66 l,iv n,iv j,D.p 9 0 0,bv (decide (c.1=D.int (D.cell d0 0)) && (decide (c.2=D.int (D.cell d0 1)) && true)),sl 66 m,iv y,iv (w64 (t+(1:Int)))] [Blk.arr true 45 1 [dSg s],Blk.arr true 28 1 [D.agg [iv q.1,sl 64 (List.map dLe q.2),sl 66 (List.map dCa q.3),sl 4 (List.map bv q.4),iv r.1,sl 64 (List.map dLe r.2),sl 66 (List.map dCa r.3),sl 4 (List.map bv r.4)]],Blk.map false 80 es,Blk.arr true 66 1 [D.agg [iv c.1,iv c.2]]])))) (M.pure (some 0,(ls [D.p 0 0 0,D.p 1 0 0,D.mp 8,ik (0:Int),ik (0:Int),sl 66 l,iv n,iv j,D.p 9 0 0,bv f] [Blk.arr true 45 1 [dSg s],Blk.arr true 28 1 [D.agg [iv q.1,sl 64 (List.map dLe q.2),sl 66 (List.map dCa q.3),sl 4 (List.map bv q.4),iv r.1,sl 64 (List.map dLe r.2),sl 66 (List.map dCa r.3),sl 4 (List.map bv r.4)]],Blk.map false 80 es,Blk.arr true 66 1 [D.agg [iv c.1,iv c.2]]])))):=by kernel_rfl
theorem rd_nv5(s:Sg)(q r:Rp)(es:List (Int×D))(l m:List D)(n j y t:Int)(f:Bool)(c:Ca):eNv (8,5) ⟨pN4 1 l n j++[.p 9 0 0,bv f,sl 66 m,iv y,iv t],bNv s q r++[.map false 80 es,.arr true 66 1 [dCa c]],[]⟩=(M.br (decide (t<y)) (M.get m t fun d0=>M.br f (M.pure (none,(ls [D.p 0 0 0,D.p 1 0 0,D.mp 8,ik (1:Int),ik (1:Int),sl 66 l,iv n,iv j,D.p 9 0 0,bv true,sl 66 m,iv y,iv (w64 (t+(1:Int)))] [Blk.arr true 45 1 [dSg s],Blk.arr true 28 1 [D.agg [iv q.1,sl 64 (List.map dLe q.2),sl 66 (List.map dCa q.3),sl 4 (List.map bv q.4),iv r.1,sl 64 (List.map dLe r.2),sl 66 (List.map dCa r.3),sl 4 (List.map bv r.4)]],Blk.map false 80 es,Blk.arr true 66 1 [D.agg [iv c.1,iv c.2]]]))) (M.pure (none,(ls [D.p 0 0 0,D.p 1 0 0,D.mp 8,ik (1:Int),ik (1:Int),sl 66 l,iv n,iv j,D.p 9 0 0,bv (decide (c.1=D.int (D.cell d0 0)) && (decide (c.2=D.int (D.cell d0 1)) && true)),sl 66 m,iv y,iv (w64 (t+(1:Int)))] [Blk.arr true 45 1 [dSg s],Blk.arr true 28 1 [D.agg [iv q.1,sl 64 (List.map dLe q.2),sl 66 (List.map dCa q.3),sl 4 (List.map bv q.4),iv r.1,sl 64 (List.map dLe r.2),sl 66 (List.map dCa r.3),sl 4 (List.map bv r.4)]],Blk.map false 80 es,Blk.arr true 66 1 [D.agg [iv c.1,iv c.2]]])))) (M.pure (some 0,(ls [D.p 0 0 0,D.p 1 0 0,D.mp 8,ik (1:Int),ik (1:Int),sl 66 l,iv n,iv j,D.p 9 0 0,bv f] [Blk.arr true 45 1 [dSg s],Blk.arr true 28 1 [D.agg [iv q.1,sl 64 (List.map dLe q.2),sl 66 (List.map dCa q.3),sl 4 (List.map bv q.4),iv r.1,sl 64 (List.map dLe r.2),sl 66 (List.map dCa r.3),sl 4 (List.map bv r.4)]],Blk.map false 80 es,Blk.arr true 66 1 [D.agg [iv c.1,iv c.2]]])))):=by kernel_rfl
theorem rd_nv6(s:Sg)(es:List (Int×D))(l:List D)(n j:Int):eNv (8,6) ⟨[.p 0 0 0,.mp 9,sl 66 l,iv n,iv j],[.arr true 45 1 [dSg s],.map false 82 es],[]⟩=(M.br (decide (j<n)) (M.get l j fun d0=>M.pure (none,(ls [D.p 0 0 0,D.mp 9,sl 66 l,iv n,iv (w64 (j+(1:Int)))] [Blk.arr true 45 1 [dSg s],Blk.map false 82 ((D.int (D.cell d0 0),bk true)::es)]))) (M.pure (some 0,(ls [D.p 0 0 0,D.mp 9] [Blk.arr true 45 1 [dSg s],Blk.map false 82 es])))):=by kernel_rfl
theorem rd_nv7(s:Sg)(es:List (Int×D))(l:List D)(n j:Int):eNv (8,7) ⟨[.mp 9,sl 66 l,iv n,iv j],[.arr true 45 1 [dSg s],.map false 82 es],[]⟩=(M.br (decide (j<n)) (M.get l j fun d0=>M.br (Option.isSome (look es (D.int (D.cell d0 0)))) (M.br (D.bool (Option.getD (look es (D.int (D.cell d0 0))) D.any)) (M.bad 151) (M.pure (none,(ls [D.mp 9,sl 66 l,iv n,iv (w64 (j+(1:Int)))] [Blk.arr true 45 1 [dSg s],Blk.map false 82 es])))) (M.pure (none,(ls [D.mp 9,sl 66 l,iv n,iv (w64 (j+(1:Int)))] [Blk.arr true 45 1 [dSg s],Blk.map false 82 es])))) (M.pure (some 0,(ls [] [Blk.arr true 45 1 [dSg s],Blk.map false 82 es])))):=by kernel_rfl
theorem t_nv(s:Sg):callRB cNv [8] 8 [] 0 1 45 (dSg s)=(M.call 19 [dDi (Sg.d0 s)] [] fun d0 o0=>M.call 20 [iv (0:Int),sl 57 (D.items (List.getD (D.parts d0) 0 D.any))] [] fun d1 o1=>M.br (!D.bool (List.getD (D.parts d0) 1 D.any)) (M.pure (Rs.ret (bk false),Blk.arr true 45 1 [dSg s])) (M.br (D.int (List.getD (D.parts d1) 1 D.any) != (0:Int)) (M.pure (Rs.ret (bk false),Blk.arr true 45 1 [dSg s])) (M.call 19 [dDi (Sg.d1 s)] [] fun d2 o2=>M.call 20 [iv (w64 ((0:Int)+(1:Int))),sl 57 (D.items (List.getD (D.parts d2) 0 D.any))] [] fun d3 o3=>M.br (!D.bool (List.getD (D.parts d2) 1 D.any)) (M.pure (Rs.ret (bk false),Blk.arr true 45 1 [dSg s])) (M.br (D.int (List.getD (D.parts d3) 1 D.any) != (0:Int)) (M.pure (Rs.ret (bk false),Blk.arr true 45 1 [dSg s])) (M.loop (8,1) (ls [D.p 0 0 0,D.p 1 0 0,sl 64 (List.map dLe (Sg.p s).5),iv (nI (List.length (List.map dLe (Sg.p s).5))),iv (0:Int)] [Blk.arr true 45 1 [dSg s],Blk.arr true 28 1 [D.agg [iv (D.int (D.cell (List.getD (D.parts d1) 0 D.any) 0)),D.sl false 64 (D.items (D.cell (List.getD (D.parts d1) 0 D.any) 1)) Tok.non,D.sl false 66 (D.items (D.cell (List.getD (D.parts d1) 0 D.any) 2)) Tok.non,D.sl false 4 (D.items (D.cell (List.getD (D.parts d1) 0 D.any) 3)) Tok.non,iv (D.int (D.cell (List.getD (D.parts d3) 0 D.any) 0)),D.sl false 64 (D.items (D.cell (List.getD (D.parts d3) 0 D.any) 1)) Tok.non,D.sl false 66 (D.items (D.cell (List.getD (D.parts d3) 0 D.any) 2)) Tok.non,D.sl false 4 (D.items (D.cell (List.getD (D.parts d3) 0 D.any) 3)) Tok.non]]]) (fun L4=>M.loop (8,2) (ls [D.p 0 0 0,D.p 1 0 0,D.mp 8,ik (0:Int),ik (0:Int),sl 66 (D.items (D.cell (vb L4 0) 11)),iv (nI (List.length (D.items (D.cell (vb L4 0) 11)))),iv (0:Int)] [Blk.arr true 45 1 [etaK0 kSg (vb L4 0)],Blk.arr true 28 1 [etaK0 kK2 (vb L4 1)],Blk.map false 80 []]) (fun L5=>M.loop (8,3) (ls [D.p 0 0 0,D.p 1 0 0,D.mp 8,ik (1:Int),ik (1:Int),sl 66 (D.items (D.cell (vb L5 0) 12)),iv (nI (List.length (D.items (D.cell (vb L5 0) 12)))),iv (0:Int)] [Blk.arr true 45 1 [etaK0 kSg (vb L5 0)],Blk.arr true 28 1 [etaK0 kK2 (vb L5 1)],Blk.map false 80 (Blk.es (List.getD (LSt.bs L5) 2 Blk.dead))]) (fun L6=>M.loop (8,6) (ls [D.p 0 0 0,D.mp 9,sl 66 (D.items (D.cell (vb L6 0) 2)),iv (nI (List.length (D.items (D.cell (vb L6 0) 2)))),iv (0:Int)] [Blk.arr true 45 1 [etaK0 kSg (vb L6 0)],Blk.map false 82 []]) (fun L7=>M.loop (8,7) (ls [D.mp 9,sl 66 (D.items (D.cell (vb L7 0) 6)),iv (nI (List.length (D.items (D.cell (vb L7 0) 6)))),iv (0:Int)] [Blk.arr true 45 1 [etaK0 kSg (vb L7 0)],Blk.map false 82 (Blk.es (List.getD (LSt.bs L7) 1 Blk.dead))]) (fun L8=>M.pure (Rs.ret (bk true),Blk.arr true 45 1 [etaK0 kSg (vb L8 0)])) (fun L8=>M.bad 154) fun L8=>M.bad 154) (fun L7=>M.bad 154) fun L7=>M.bad 154) (fun L6=>M.bad 154) fun L6=>M.bad 154) (fun L5=>M.bad 154) fun L5=>M.bad 154) (fun L4=>M.bad 154) fun L4=>M.bad 154))))):=by kernel_rfl
end Z
namespace Z
abbrev gNvC:List (Con PP):=[conR3,conLoa,conKn]
theorem nv1_lp(s:Sg)(q r:Rp)(l:List Le)(hl:l.length<100000)(hq:q.le.length<1000000)(hr:r.le.length<1000000)(h:∀ x∈l,x∈q.le∨x∈r.le):Lp eNv (consΓ gNvC) (8,1) ⟨[.p 0 0 0,.p 1 0 0,sl 64 (l.map dLe),iv l.length,iv 0],bNv s q r,[]⟩ 0 ⟨[.p 0 0 0,.p 1 0 0],bNv s q r,[]⟩:=by
 have hlp:∃ j1 L,Lp eNv (consΓ gNvC) (8,1) ⟨[.p 0 0 0,.p 1 0 0,sl 64 (l.map dLe),iv l.length,iv (((0:Nat)):Int)],bNv s q r,[]⟩ j1 L∧j1=0∧L=⟨[.p 0 0 0,.p 1 0 0],bNv s q r,[]⟩:=by
  refine lp_up (σ:=Unit) (fun i _=>⟨[.p 0 0 0,.p 1 0 0,sl 64 (l.map dLe),iv l.length,iv ((i:Nat):Int)],bNv s q r,[]⟩) l.length (fun _ _=>True) _ (fun i _ hi _=>?_) (fun _ _=>?_) (s:=()) trivial
  ·rw [rd_nv1]
   have hx:=List.getElem?_eq_getElem hi
   generalize l[i]'hi=x at hx
   have hxm:=h x (List.mem_of_getElem? hx)
   have hg:(l.map dLe)[((i:Nat):Int).toNat]?=some (dLe x):=by
    rw [Int.toNat_natCast,List.getElem?_map,hx];rfl
   have hnx:∀ z:Rd1,z=(none,⟨[.p 0 0 0,.p 1 0 0,sl 64 (l.map dLe),iv l.length,iv (w64 (((i:Nat):Int)+1))],bNv s q r,[]⟩)→(∃ s',z=(none,⟨[.p 0 0 0,.p 1 0 0,sl 64 (l.map dLe),iv l.length,iv ((i+1:Nat):Int)],bNv s q r,[]⟩)∧True)∨∃ j L,z=(some j,L)∧j=0∧L=⟨[.p 0 0 0,.p 1 0 0],bNv s q r,[]⟩:=fun z hz=>.inl ⟨(),by rw [hz,w64_id (by omega) (by omega)];rfl,trivial⟩
   refine⟨fun _=>⟨by omega,_,hg,_,[],⟨conKn,rfl,_,⟨q.le,x,hq,rfl,rfl⟩,rfl⟩,fun q1=>⟨_,[],⟨conKn,rfl,_,⟨r.le,x,hr,rfl,rfl⟩,rfl⟩,fun q2=>?_,fun _=>.inl ⟨(),(by rw [w64_id (by omega) (by omega)];rfl),trivial⟩⟩,fun _=>.inl ⟨(),(by rw [w64_id (by omega) (by omega)];rfl),trivial⟩⟩,fun h=>absurd (of_decide_eq_false h) (by omega)⟩
   have q1:(!decide (x∈q.le))=true:=q1
   have q2:(!decide (x∈r.le))=true:=q2
   simp at q1 q2
   exact hxm.elim q1 q2
  rw [rd_nv1]
  exact⟨fun h=>absurd (of_decide_eq_true h) (by omega),fun _=>⟨0,_,rfl,rfl,rfl⟩⟩
 obtain⟨_,_,g1,rfl,rfl⟩:=hlp
 exact g1
def esC(l:List Ca):List (Int×D):=(l.map fun c=>(c.bar,dCa c)).reverse
def esB(l:List Ca):List (Int×D):=(l.map fun c=>(c.bar,bk true)).reverse
theorem esC_app(l:List Ca)(c:Ca):esC (l++[c])=(c.bar,dCa c)::esC l:=by
 unfold esC
 rw [List.map_append,List.reverse_append];rfl
theorem esB_app(l:List Ca)(c:Ca):esB (l++[c])=(c.bar,bk true)::esB l:=by
 unfold esB
 rw [List.map_append,List.reverse_append];rfl
theorem look_memP:∀ {es:List (Int×D)}{b:Int}{d:D},look es b=some d→(b,d)∈es
 | [],_,_,h=>nomatch h
 | (k,e)::r,b,d,h=>by
  unfold look at h
  split at h
  ·rename_i hk
   cases h;rw [hk];exact List.mem_cons_self ..
  exact List.mem_cons_of_mem _ (look_memP h)
theorem lookC{l:List Ca}{b:Int}{d:D}(h:look (esC l) b=some d):∃ c∈l,c.bar=b∧d=dCa c:=by
 have:=look_memP h
 unfold esC at this
 rw [List.mem_reverse]at this
 obtain⟨c,h1,h2⟩:=List.mem_map.1 this
 injection h2 with h2 h3
 exact⟨c,h1,h2,h3.symm⟩
theorem lookB{l:List Ca}{b:Int}{d:D}(h:look (esB l) b=some d):∃ c∈l,c.bar=b:=by
 have:=look_memP h
 unfold esB at this
 rw [List.mem_reverse]at this
 obtain⟨c,h1,h2⟩:=List.mem_map.1 this
 injection h2 with h2 h3
 exact⟨c,h1,h2⟩
theorem nv4_lp(s:Sg)(q r:Rp)(es:List (Int×D))(l:List D)(n j:Int)(c:Ca)(m:List Ca)(hm:m.length<100000):Lp eNv (consΓ gNvC) (8,4) ⟨pN4 0 l n j++[.p 9 0 0,bv false,sl 66 (m.map dCa),iv m.length,iv 0],bNv s q r++[.map false 80 es,.arr true 66 1 [dCa c]],[]⟩ 0 ⟨pN4 0 l n j++[.p 9 0 0,bv (decide (c∈m))],bNv s q r++[.map false 80 es,.arr true 66 1 [dCa c]],[]⟩:=by
 have hlp:∃ j1 L,Lp eNv (consΓ gNvC) (8,4) ⟨pN4 0 l n j++[.p 9 0 0,bv (decide (c∈m.take 0)),sl 66 (m.map dCa),iv m.length,iv (((0:Nat)):Int)],bNv s q r++[.map false 80 es,.arr true 66 1 [dCa c]],[]⟩ j1 L∧j1=0∧L=⟨pN4 0 l n j++[.p 9 0 0,bv (decide (c∈m))],bNv s q r++[.map false 80 es,.arr true 66 1 [dCa c]],[]⟩:=by
  refine lp_up (σ:=Unit) (fun i _=>⟨pN4 0 l n j++[.p 9 0 0,bv (decide (c∈m.take i)),sl 66 (m.map dCa),iv m.length,iv ((i:Nat):Int)],bNv s q r++[.map false 80 es,.arr true 66 1 [dCa c]],[]⟩) m.length (fun _ _=>True) _ (fun i _ hi _=>?_) (fun _ _=>?_) (s:=()) trivial
  ·rw [rd_nv4]
   have hx:=List.getElem?_eq_getElem hi
   have ht:m.take (i+1)=m.take i++[m[i]'hi]:=List.take_succ_eq_append_getElem hi
   generalize m[i]'hi=x at *
   have hg:(m.map dCa)[((i:Nat):Int).toNat]?=some (dCa x):=by
    rw [Int.toNat_natCast,List.getElem?_map,hx];rfl
   refine⟨fun _=>⟨by omega,_,hg,fun q1=>.inl ⟨(),?_,trivial⟩,fun q1=>.inl ⟨(),?_,trivial⟩⟩,fun h=>absurd (of_decide_eq_false h) (by omega)⟩
   ·have e:decide (c∈m.take (i+1))=true:=by
     rw [ht];exact decide_eq_true (List.mem_append.2 (.inl (of_decide_eq_true q1)))
    rw [w64_id (by omega) (by omega),e]
    rfl
   have e:decide (c∈m.take (i+1))=(decide (c.bar=x.bar) && (decide (c.pr=x.pr) && true)):=by
    have hn:=of_decide_eq_false q1
    rw [ht]
    cases c;cases x
    simp only [List.mem_append,List.mem_singleton,Ca.mk.injEq,Bool.and_true]
    simp [hn]
   rw [w64_id (by omega) (by omega),e]
   rfl
  rw [rd_nv4]
  refine⟨fun h=>absurd (of_decide_eq_true h) (by omega),fun _=>⟨0,_,rfl,rfl,?_⟩⟩
  rw [List.take_length]
  rfl
 obtain⟨_,_,g1,rfl,rfl⟩:=hlp
 have e0:decide (c∈m.take 0)=false:=by simp
 rw [e0]at g1
 exact g1
theorem nv2_lp(s:Sg)(q r:Rp)(pre l:List Ca)(hl:l.length<100000)(hm:q.ca.length<100000)(h1:∀ c∈l,c∈q.ca)(h2:∀ c∈pre++l,∀ d∈pre++l,c.bar=d.bar→c=d):Lp eNv (consΓ gNvC) (8,2) ⟨pN4 0 (l.map dCa) l.length 0,bNv s q r++[.map false 80 (esC pre)],[]⟩ 0 ⟨[.p 0 0 0,.p 1 0 0,.mp 8,ik 0,ik 0],bNv s q r++[.map false 80 (esC (pre++l))],[]⟩:=by
 have hlp:∃ j1 L,Lp eNv (consΓ gNvC) (8,2) ⟨pN4 0 (l.map dCa) l.length (((0:Nat)):Int),bNv s q r++[.map false 80 (esC (pre++l.take 0))],[]⟩ j1 L∧j1=0∧L=⟨[.p 0 0 0,.p 1 0 0,.mp 8,ik 0,ik 0],bNv s q r++[.map false 80 (esC (pre++l))],[]⟩:=by
  refine lp_up (σ:=Unit) (fun i _=>⟨pN4 0 (l.map dCa) l.length ((i:Nat):Int),bNv s q r++[.map false 80 (esC (pre++l.take i))],[]⟩) l.length (fun _ _=>True) _ (fun i _ hi _=>?_) (fun _ _=>?_) (s:=()) trivial
  ·rw [rd_nv2]
   have hx:=List.getElem?_eq_getElem hi
   have ht:l.take (i+1)=l.take i++[l[i]'hi]:=List.take_succ_eq_append_getElem hi
   generalize l[i]'hi=c at *
   have hcm:=List.mem_of_getElem? hx
   have hg:(l.map dCa)[((i:Nat):Int).toNat]?=some (dCa c):=by
    rw [Int.toNat_natCast,List.getElem?_map,hx];rfl
   have h4:=nv4_lp s q r (esC (pre++l.take i)) (l.map dCa) l.length i c q.ca hm
   rw [show nI (q.ca.map dCa).length=(q.ca.length:Int) by rw [List.length_map]]
   have ef:decide (c∈q.ca)=true:=decide_eq_true (h1 c hcm)
   rw [ef]at h4
   have hlook:∀ d,look (esC (pre++l.take i)) c.bar=some d→d=dCa c:=fun d hd=>by
    obtain⟨e,k1,k2,k3⟩:=lookC hd
    have he:e∈pre++l:=(List.mem_append.1 k1).elim (fun h=>List.mem_append.2 (.inl h)) fun h=>List.mem_append.2 (.inr (List.mem_of_mem_take h))
    rw [k3,h2 e he c (List.mem_append.2 (.inr hcm)) k2]
   have hnext:((none:Option Nat),LSt.mk (pN4 0 (l.map dCa) l.length (w64 (((i:Nat):Int)+1))) (bNv s q r++[Blk.map false 80 ((c.bar,dCa c)::esC (pre++l.take i))]) [])=(none,LSt.mk (pN4 0 (l.map dCa) l.length ((i+1:Nat):Int)) (bNv s q r++[Blk.map false 80 (esC (pre++l.take (i+1)))]) []):=by
    rw [w64_id (by omega) (by omega),ht,← List.append_assoc,esC_app]
    rfl
   refine⟨fun _=>⟨by omega,_,hg,.inl ⟨_,h4,fun q1=>⟨(fun q=>nomatch q),fun _=>⟨fun q3=>?_,fun _=>.inl ⟨(),hnext,trivial⟩⟩⟩,fun _=>⟨(fun q=>nomatch q),fun _=>.inl ⟨(),hnext,trivial⟩⟩⟩⟩,fun h=>absurd (of_decide_eq_false h) (by omega)⟩
   have q1:(look (esC (pre++l.take i)) c.bar).isSome=true:=q1
   have q3:(!(decide (c.bar=D.int (D.cell ((look (esC (pre++l.take i)) c.bar).getD D.any) 0)) && (decide (c.pr=D.int (D.cell ((look (esC (pre++l.take i)) c.bar).getD D.any) 1)) && true)))=true:=q3
   obtain⟨d,hd⟩:=Option.isSome_iff_exists.1 q1
   rw [hd,Option.getD_some,hlook d hd]at q3
   have q4:(!(decide (c.bar=c.bar) && (decide (c.pr=c.pr) && true)))=true:=q3
   simp at q4
  rw [rd_nv2]
  refine⟨fun h=>absurd (of_decide_eq_true h) (by omega),fun _=>⟨0,_,rfl,rfl,?_⟩⟩
  rw [List.take_length]
  rfl
 obtain⟨_,_,g1,rfl,rfl⟩:=hlp
 rw [List.take_zero,List.append_nil]at g1
 exact g1
theorem nv5_lp(s:Sg)(q r:Rp)(es:List (Int×D))(l:List D)(n j:Int)(c:Ca)(m:List Ca)(hm:m.length<100000):Lp eNv (consΓ gNvC) (8,5) ⟨pN4 1 l n j++[.p 9 0 0,bv false,sl 66 (m.map dCa),iv m.length,iv 0],bNv s q r++[.map false 80 es,.arr true 66 1 [dCa c]],[]⟩ 0 ⟨pN4 1 l n j++[.p 9 0 0,bv (decide (c∈m))],bNv s q r++[.map false 80 es,.arr true 66 1 [dCa c]],[]⟩:=by
 have hlp:∃ j1 L,Lp eNv (consΓ gNvC) (8,5) ⟨pN4 1 l n j++[.p 9 0 0,bv (decide (c∈m.take 0)),sl 66 (m.map dCa),iv m.length,iv (((0:Nat)):Int)],bNv s q r++[.map false 80 es,.arr true 66 1 [dCa c]],[]⟩ j1 L∧j1=0∧L=⟨pN4 1 l n j++[.p 9 0 0,bv (decide (c∈m))],bNv s q r++[.map false 80 es,.arr true 66 1 [dCa c]],[]⟩:=by
  refine lp_up (σ:=Unit) (fun i _=>⟨pN4 1 l n j++[.p 9 0 0,bv (decide (c∈m.take i)),sl 66 (m.map dCa),iv m.length,iv ((i:Nat):Int)],bNv s q r++[.map false 80 es,.arr true 66 1 [dCa c]],[]⟩) m.length (fun _ _=>True) _ (fun i _ hi _=>?_) (fun _ _=>?_) (s:=()) trivial
  ·rw [rd_nv5]
   have hx:=List.getElem?_eq_getElem hi
   have ht:m.take (i+1)=m.take i++[m[i]'hi]:=List.take_succ_eq_append_getElem hi
   generalize m[i]'hi=x at *
   have hg:(m.map dCa)[((i:Nat):Int).toNat]?=some (dCa x):=by
    rw [Int.toNat_natCast,List.getElem?_map,hx];rfl
   refine⟨fun _=>⟨by omega,_,hg,fun q1=>.inl ⟨(),?_,trivial⟩,fun q1=>.inl ⟨(),?_,trivial⟩⟩,fun h=>absurd (of_decide_eq_false h) (by omega)⟩
   ·have e:decide (c∈m.take (i+1))=true:=by
     rw [ht];exact decide_eq_true (List.mem_append.2 (.inl (of_decide_eq_true q1)))
    rw [w64_id (by omega) (by omega),e]
    rfl
   have e:decide (c∈m.take (i+1))=(decide (c.bar=x.bar) && (decide (c.pr=x.pr) && true)):=by
    have hn:=of_decide_eq_false q1
    rw [ht]
    cases c;cases x
    simp only [List.mem_append,List.mem_singleton,Ca.mk.injEq,Bool.and_true]
    simp [hn]
   rw [w64_id (by omega) (by omega),e]
   rfl
  rw [rd_nv5]
  refine⟨fun h=>absurd (of_decide_eq_true h) (by omega),fun _=>⟨0,_,rfl,rfl,?_⟩⟩
  rw [List.take_length]
  rfl
 obtain⟨_,_,g1,rfl,rfl⟩:=hlp
 have e0:decide (c∈m.take 0)=false:=by simp
 rw [e0]at g1
 exact g1
theorem nv3_lp(s:Sg)(q r:Rp)(pre l:List Ca)(hl:l.length<100000)(hm:r.ca.length<100000)(h1:∀ c∈l,c∈r.ca)(h2:∀ c∈pre++l,∀ d∈pre++l,c.bar=d.bar→c=d):Lp eNv (consΓ gNvC) (8,3) ⟨pN4 1 (l.map dCa) l.length 0,bNv s q r++[.map false 80 (esC pre)],[]⟩ 0 ⟨[.p 0 0 0,.p 1 0 0,.mp 8,ik 1,ik 1],bNv s q r++[.map false 80 (esC (pre++l))],[]⟩:=by
 have hlp:∃ j1 L,Lp eNv (consΓ gNvC) (8,3) ⟨pN4 1 (l.map dCa) l.length (((0:Nat)):Int),bNv s q r++[.map false 80 (esC (pre++l.take 0))],[]⟩ j1 L∧j1=0∧L=⟨[.p 0 0 0,.p 1 0 0,.mp 8,ik 1,ik 1],bNv s q r++[.map false 80 (esC (pre++l))],[]⟩:=by
  refine lp_up (σ:=Unit) (fun i _=>⟨pN4 1 (l.map dCa) l.length ((i:Nat):Int),bNv s q r++[.map false 80 (esC (pre++l.take i))],[]⟩) l.length (fun _ _=>True) _ (fun i _ hi _=>?_) (fun _ _=>?_) (s:=()) trivial
  ·rw [rd_nv3]
   have hx:=List.getElem?_eq_getElem hi
   have ht:l.take (i+1)=l.take i++[l[i]'hi]:=List.take_succ_eq_append_getElem hi
   generalize l[i]'hi=c at *
   have hcm:=List.mem_of_getElem? hx
   have hg:(l.map dCa)[((i:Nat):Int).toNat]?=some (dCa c):=by
    rw [Int.toNat_natCast,List.getElem?_map,hx];rfl
   have h4:=nv5_lp s q r (esC (pre++l.take i)) (l.map dCa) l.length i c r.ca hm
   rw [show nI (r.ca.map dCa).length=(r.ca.length:Int) by rw [List.length_map]]
   have ef:decide (c∈r.ca)=true:=decide_eq_true (h1 c hcm)
   rw [ef]at h4
   have hlook:∀ d,look (esC (pre++l.take i)) c.bar=some d→d=dCa c:=fun d hd=>by
    obtain⟨e,k1,k2,k3⟩:=lookC hd
    have he:e∈pre++l:=(List.mem_append.1 k1).elim (fun h=>List.mem_append.2 (.inl h)) fun h=>List.mem_append.2 (.inr (List.mem_of_mem_take h))
    rw [k3,h2 e he c (List.mem_append.2 (.inr hcm)) k2]
   have hnext:((none:Option Nat),LSt.mk (pN4 1 (l.map dCa) l.length (w64 (((i:Nat):Int)+1))) (bNv s q r++[Blk.map false 80 ((c.bar,dCa c)::esC (pre++l.take i))]) [])=(none,LSt.mk (pN4 1 (l.map dCa) l.length ((i+1:Nat):Int)) (bNv s q r++[Blk.map false 80 (esC (pre++l.take (i+1)))]) []):=by
    rw [w64_id (by omega) (by omega),ht,← List.append_assoc,esC_app]
    rfl
   refine⟨fun _=>⟨by omega,_,hg,.inl ⟨_,h4,fun q1=>⟨(fun q=>nomatch q),fun _=>⟨fun q3=>?_,fun _=>.inl ⟨(),hnext,trivial⟩⟩⟩,fun _=>⟨(fun q=>nomatch q),fun _=>.inl ⟨(),hnext,trivial⟩⟩⟩⟩,fun h=>absurd (of_decide_eq_false h) (by omega)⟩
   have q1:(look (esC (pre++l.take i)) c.bar).isSome=true:=q1
   have q3:(!(decide (c.bar=D.int (D.cell ((look (esC (pre++l.take i)) c.bar).getD D.any) 0)) && (decide (c.pr=D.int (D.cell ((look (esC (pre++l.take i)) c.bar).getD D.any) 1)) && true)))=true:=q3
   obtain⟨d,hd⟩:=Option.isSome_iff_exists.1 q1
   rw [hd,Option.getD_some,hlook d hd]at q3
   have q4:(!(decide (c.bar=c.bar) && (decide (c.pr=c.pr) && true)))=true:=q3
   simp at q4
  rw [rd_nv3]
  refine⟨fun h=>absurd (of_decide_eq_true h) (by omega),fun _=>⟨0,_,rfl,rfl,?_⟩⟩
  rw [List.take_length]
  rfl
 obtain⟨_,_,g1,rfl,rfl⟩:=hlp
 rw [List.take_zero,List.append_nil]at g1
 exact g1
theorem nv6_lp(s:Sg)(l:List Ca)(hl:l.length<100000):Lp eNv (consΓ gNvC) (8,6) ⟨[.p 0 0 0,.mp 9,sl 66 (l.map dCa),iv l.length,iv 0],[.arr true 45 1 [dSg s],.map false 82 []],[]⟩ 0 ⟨[.p 0 0 0,.mp 9],[.arr true 45 1 [dSg s],.map false 82 (esB l)],[]⟩:=by
 have hlp:∃ j1 L,Lp eNv (consΓ gNvC) (8,6) ⟨[.p 0 0 0,.mp 9,sl 66 (l.map dCa),iv l.length,iv (((0:Nat)):Int)],[.arr true 45 1 [dSg s],.map false 82 (esB (l.take 0))],[]⟩ j1 L∧j1=0∧L=⟨[.p 0 0 0,.mp 9],[.arr true 45 1 [dSg s],.map false 82 (esB l)],[]⟩:=by
  refine lp_up (σ:=Unit) (fun i _=>⟨[.p 0 0 0,.mp 9,sl 66 (l.map dCa),iv l.length,iv ((i:Nat):Int)],[.arr true 45 1 [dSg s],.map false 82 (esB (l.take i))],[]⟩) l.length (fun _ _=>True) _ (fun i _ hi _=>?_) (fun _ _=>?_) (s:=()) trivial
  ·rw [rd_nv6]
   have hx:=List.getElem?_eq_getElem hi
   have ht:l.take (i+1)=l.take i++[l[i]'hi]:=List.take_succ_eq_append_getElem hi
   generalize l[i]'hi=c at *
   have hg:(l.map dCa)[((i:Nat):Int).toNat]?=some (dCa c):=by
    rw [Int.toNat_natCast,List.getElem?_map,hx];rfl
   refine⟨fun _=>⟨by omega,_,hg,.inl ⟨(),?_,trivial⟩⟩,fun h=>absurd (of_decide_eq_false h) (by omega)⟩
   rw [w64_id (by omega) (by omega),ht,esB_app]
   rfl
  rw [rd_nv6]
  refine⟨fun h=>absurd (of_decide_eq_true h) (by omega),fun _=>⟨0,_,rfl,rfl,?_⟩⟩
  rw [List.take_length]
 obtain⟨_,_,g1,rfl,rfl⟩:=hlp
 exact g1
theorem nv7_lp(s:Sg)(k l:List Ca)(hl:l.length<100000)(h:∀ c∈k,∀ d∈l,c.bar≠d.bar):Lp eNv (consΓ gNvC) (8,7) ⟨[.mp 9,sl 66 (l.map dCa),iv l.length,iv 0],[.arr true 45 1 [dSg s],.map false 82 (esB k)],[]⟩ 0 ⟨[],[.arr true 45 1 [dSg s],.map false 82 (esB k)],[]⟩:=by
 have hlp:∃ j1 L,Lp eNv (consΓ gNvC) (8,7) ⟨[.mp 9,sl 66 (l.map dCa),iv l.length,iv (((0:Nat)):Int)],[.arr true 45 1 [dSg s],.map false 82 (esB k)],[]⟩ j1 L∧j1=0∧L=⟨[],[.arr true 45 1 [dSg s],.map false 82 (esB k)],[]⟩:=by
  refine lp_up (σ:=Unit) (fun i _=>⟨[.mp 9,sl 66 (l.map dCa),iv l.length,iv ((i:Nat):Int)],[.arr true 45 1 [dSg s],.map false 82 (esB k)],[]⟩) l.length (fun _ _=>True) _ (fun i _ hi _=>?_) (fun _ _=>?_) (s:=()) trivial
  ·rw [rd_nv7]
   have hx:=List.getElem?_eq_getElem hi
   generalize l[i]'hi=c at hx
   have hg:(l.map dCa)[((i:Nat):Int).toNat]?=some (dCa c):=by
    rw [Int.toNat_natCast,List.getElem?_map,hx];rfl
   refine⟨fun _=>⟨by omega,_,hg,fun q=>?_,fun _=>.inl ⟨(),?_,trivial⟩⟩,fun h=>absurd (of_decide_eq_false h) (by omega)⟩
   ·have q:(look (esB k) c.bar).isSome=true:=q
    obtain⟨d,hd⟩:=Option.isSome_iff_exists.1 q
    obtain⟨e,k1,k2⟩:=lookB hd
    exact absurd k2 (h e k1 c (List.mem_of_getElem? hx))
   rw [w64_id (by omega) (by omega)];rfl
  rw [rd_nv7]
  exact⟨fun h=>absurd (of_decide_eq_true h) (by omega),fun _=>⟨0,_,rfl,rfl,rfl⟩⟩
 obtain⟨_,_,g1,rfl,rfl⟩:=hlp
 exact g1
end Z
end Go.Proofs.YtmgcclhbbhbmcaaGreat
