/-
  Texts behind the statement, part 6.
-/
import Derived.Test.YtidekfgkpindbaaGreatDoorQC5
import Derived.Test.YtidekfgkpindbaaGreatDoorQC1
import Derived.Test.YtidekfgkpindbaaGreatDoorRows
import Derived.WalkKit
import Derived.Lib.Hide
import Derived.WalkSpells
import Derived.WalkLawsBesides
import Derived.RangeFuncNested
import Derived.RangeFuncBound
import Derived.RangeFuncCalls
import Derived.RangeFuncLeaves
import Derived.RangeFuncBox
import Derived.OwnWalkIn
import Derived.TacticsInMore
import Derived.LoopNIn
import Derived.LoopIn
import Derived.Lib.RabinKarpLaws
import Derived.Shelf.Abstract
import Derived.Shelf.Bytes.SlSearch0
import Derived.Ground.SlbNamesProg
import Derived.Shelf.Bytes.SlJoin
import Derived.Shelf.Bytes.SlEqualAll
import Derived.Shelf.Bytes.Small
import Derived.Test.YtidekfgkpindbaaGreatDoorProg
import Derived.DeepKeys3
set_option linter.unusedSimpArgs false
set_option linter.unusedVariables false
set_option maxRecDepth 100000
set_option maxHeartbeats 4000000
namespace Go.Proofs.YtidekfgkpindbaaGreatDoor
open Go Go.RowKit SX
def fb:Fl→List W8
 | .n k=>1#8::bZ (eX k)
 | .s b=>2#8::(bZ b.size++sb b)
def aG(l:List Fl):List W8:=3#8::(bZ l.length++l.flatMap fb)
theorem xN{z:Fl}(h:z.fits):(fb z).length≤1048600:=by
 cases z with
 | n k =>
  have:=cU 9 (eX k) (by have:=lZ h.1 h.2;omega)
  simp only [fb,List.length_cons];omega
 | s b =>
  have h:b.size≤1048576:=h
  have:=cU 9 b.size ab
  simp only [fb,List.length_cons,List.length_append,lg];omega
theorem qJ{l:List Fl}(h:∀ z∈l,z.fits):(l.flatMap fb).length≤l.length*1048600:=by
 induction l with
 | nil=>simp
 | cons z l ih =>
  have h1:=xN (h z ai)
  have h2:=ih fun y hy=>h y (by simp [hy])
  simp only [List.flatMap_cons,List.length_append,List.length_cons]
  omega
def P7(f:FuncId)(xs:List SX.Arg)(v:Value):Prop:=f=133∧∃ k:Int,xs=[⟨.int .i64 k,0,[]⟩]∧(-9223372036854775808≤k∧k≤9223372036854775807)∧v=.int .u64 (eX k:Int)
def NV:FuncId→Option SX.Sh:=fun f=>if f=133 then some .one else none
noncomputable def K4(K A:QV):SX.Cx:={ P:=Tryz.prog,R:=fun _=>P7,shp:=NV,K:=K,A:=A,trm:=true,tl:=[131,134],rc:=fun f=>if f=132 then some true else none }
theorem Pg(K A:QV):(K4 K A).Ok:=by
 refine SX.Cx.b6 al ?_
 intro K f xs v W hR hrd hKf
 obtain⟨rfl,k,rfl,h1,rfl⟩:=hR
 exact(wP k W h1.1 h1.2).mono fun e w' h=>ay rfl h
def vp:List SX.V:=[.k (.slice none 0 0),.a [.k (.int .i64 3),.k (.int .i64 0),.k (.string ⟨#[]⟩),.x 0 []],.p 0 0]
def BQ:List ak:=[⟨[.p 1 0],145,.cells⟩,⟨[.k .nilFunc,.f (.func 131) [] [],.f (.func 134) [] [],.f (.func 135) [] [.p 0 0]],174,.cells⟩]
def wM:SX.Tree :=
(.df (.dN 1 1 (.own 1 [(.k (.int .u8 3))])) [(.cat []),(.sl 4 0 1 1)] .any
(.df (.len false) [(.x 0 [])] .one
(.df (.conv .u64) [(.x 2 [])] .one
(.df (.callr 132 [.no] 1 5) [(.cat [(.x 1 [])]),(.x 3 [])] .any
(.df (.len false) [(.x 0 [])] .one
(.loop [(.k (.int .i64 0)),(.cat [(.x 4 [])])] [.one,.any]
(.df (.bin .lss 3) [(.x 6 []),(.x 5 [])] .one
(.br 8 []
(.df .bnd [(.x 0 []),(.x 6 [])] .one
(.df (.elems 4 0 4) [(.x 0 []),(.x 6 [])] (.ag 4)
(.sp 10 [0] [.bad 46 [],
(.df (.dN 1 1 (.own 1 [(.k (.int .u8 1))])) [(.cat [(.x 7 [])]),(.sl 16 0 1 1)] .any
(.df (.call 133 [.no]) [(.x 10 [1])] .one
(.df (.callr 132 [.no] 1 5) [(.cat [(.x 7 []),(.x 11 [])]),(.x 12 [])] .any
(.df (.bin .add 3) [(.x 6 []),(.k (.int .i64 1))] .one
(.again 0 [(.x 14 []),(.cat [(.x 13 [])])]))))),
(.df (.dN 1 1 (.own 1 [(.k (.int .u8 2))])) [(.cat [(.x 7 [])]),(.sl 16 0 1 1)] .any
(.df (.len true) [(.x 10 [2])] .one
(.df (.conv .u64) [(.x 12 [])] .one
(.df (.callr 132 [.no] 1 5) [(.cat [(.x 7 []),(.x 11 [])]),(.x 13 [])] .any
(.df (.aps 1) [(.cat [(.x 14 [])]),(.x 10 [2])] .any
(.df (.bin .add 3) [(.x 6 []),(.k (.int .i64 1))] .one
(.again 0 [(.x 16 []),(.cat [(.x 14 []),(.x 15 [])])]))))))),.bad 44 []])))
(.ret (.row 12) [none,none,none,none,none,none,none,none,none,none,none,none,(some ⟨[(.x 7 [])],5,(.row 1)⟩)] [[(some (.p 0 0)),(some (.p 1 0))]])))))))))
theorem L8(K A:QV):(SX.run (K4 K A) ⟨fun f=>true,[⟨135,3,[(.s 19,.one),(.s 0,.row 1 5)]⟩],2,100⟩ 100000 0 { fr:=vp.map some++List.replicate (Tryz.f135.ntmps-vp.length) (some (.k undef)),stk:=[(List.range BQ.length).map fun n=>some (.p n 0)],hp:=BQ.map some,ln:=BQ.map some,sh:=[.one],kn:=[],lps:=[],cur:=135 } [.code (Tryz.f135.body.getD .skip),.top Tryz.f135]).eS=wM:=aa
theorem Fo(fl:List Fl)(A:Option Addr)(n c b0 b1:Nat)(w:World)(hr:∀ W',bp [b0,b1] w W'→Rd W' 4 A n (gS fl))(hn:n≤1048576)(hc:n≤c)(hfit:∀ z∈fl,z.fits)(hne:b0≠b1)
 (h0:w.heap[b0]?=some (.cells #[.pointer (some ⟨b1,0,none⟩)] 145 (0,0)))
 (h1:w.heap[b1]?=some (.cells #[.nilFunc,.func (.func 131) #[] #[],.func (.func 134) #[] #[],.func (.func 135) #[] #[.pointer (some ⟨b0,0,none⟩)]] 174 (0,0))) :
 Calls Tryz.prog 135 #[.slice none 0 0,.agg #[.int .i64 3,.int .i64 0,.string ⟨#[]⟩,.slice A n c],.pointer (some ⟨b0,0,none⟩)] w fun e w'=>∃ h' b' tl',e=.returned h'∧w'.os=w.os∧w'.tape=w.tape∧w'.output=w.output∧bp [b0,b1] w w'∧iP 1 h' b' 5 ((aG fl).flatMap c8) tl' w'∧(b'∈[b0,b1]∨w.heap.size≤b'):=by
 refine sZ (C:=K4 (fun s sz cells=>s=.slice A n c∧sz=4∧cells=gS fl) QW) (G:=⟨fun f=>true,[⟨135,3,[(.s 19,.one),(.s 0,.row 1 5)]⟩],2,100⟩) (args:=vp) (sh:=[.one]) (ρ:=[.slice A n c]) (bs:=[b0,b1]) (bl:=BQ) 100000 wM (Pg _ _) Tryz.func135 rfl (L8 _ _) aa aa rfl ?_ (by simp [hne]) rfl ?_ aj ?_
 ·rintro W hW s sz cells ⟨rfl,rfl,rfl⟩;exact⟨hr W hW,hc⟩
 ·intro i b B hi hB
  match i,hi,hB with
  | 0,hi,hB=>cases hi;cases hB;exact h0
  | 1,hi,hB=>cases hi;cases hB;exact h1
 have hA:=SX.rd_some (hr w (.refl _ _))
 have hln:fl.length=n:=by have:=(hr w (.refl _ _)).1;rw [gT]at this;omega
 have hN:=cU 9 n ab
 unfold wM
 refine QC (Value.agg (([3#8]).flatMap c8).toArray) (fun α=>az (f:=c8) (l1:=[]) (l2:=[3#8]) al w6 aj aa (aS aa) aj aj) ?_
 refine QB (.int .i64 (n:Int)) ?_
 refine QC (.int .u64 (n:Int)) (fun α=>Eq.trans (b:=some (.int .u64 (IntKind.u64.wrap (n:Int)))) aa (by rw [eZ];congr 2;omega)) ?_
 refine aO (Value.agg (([3#8]++bZ n).flatMap c8).toArray) (fun α=>⟨[⟨.int .u64 (n:Int),0,[]⟩],QP,mY.b5 (mK rfl ab aj) (bz aa)⟩) rfl ?_
 refine QB (.int .i64 (n:Int)) ?_
 refine ck (fun xs=>∃ (i:Nat),xs=[.int .i64 (i:Int),.agg (([3#8]++bZ n++(fl.take i).flatMap fb).flatMap c8).toArray]∧i≤n) (fun xs=>match xs with|.int _ i::_=>n-i.toNat|_=>0) (fun α=>⟨0,Eq.trans (b:=[.int .i64 0,.agg ([Value.agg (([3#8]++bZ n).flatMap c8).toArray].flatMap ae).toArray]) aa (by simp [ae]),ab⟩) ?_
 rintro xs-⟨i,rfl,hin⟩
 have hEl:=qJ (l:=fl.take i) (fun z hz=>hfit z (List.mem_of_mem_take hz))
 have hEi:(fl.take i).length≤n:=by rw [List.length_take];omega
 obtain⟨acc,hacc⟩:∃ acc,[3#8]++bZ n++(fl.take i).flatMap fb=acc:=⟨_,rfl⟩
 have hal:acc.length≤1099600000000:=by
  rw [← hacc];simp only [LL];omega
 rw [hacc]
 refine QB (.bool (decide ((i:Int)<(n:Int)))) ?_
 refine QD (decide ((i:Int)<(n:Int))) (fun h8=>?_) (fun h8=>?_)
 ·have h8:i<n:=by have:=of_decide_eq_true h8;omega
  obtain⟨z,hz⟩:∃ z,fl[i]?=some z:=⟨_,List.getElem?_eq_getElem ab⟩
  have hzf:=hfit z (List.mem_of_getElem? hz)
  have htk:[3#8]++bZ n++(fl.take (i+1)).flatMap fb=acc++fb z:=by rw [List.take_add_one,hz,← hacc];simp
  refine QM A n c i hA h8 ?_
  refine aO (jH z) (fun α=>im (f:=aR) (l:=fl) (A:=A) (n:=n) (c:=c) (j:=i) (z:=z) aY hA aa aa h8 ⟨rfl,rfl,rfl⟩ hz) (by cases z<;>rfl) ?_
  cases z with
  | n k =>
   have hu:=lZ hzf.1 hzf.2
   refine Fz 1 aj aa fun t ht=>?_
   cases (Option.some.inj ht)
   refine QC (Value.agg (([1#8]).flatMap c8).toArray) (fun α=>az (f:=c8) (l1:=acc) (l2:=[1#8]) al w6 aj (bz aa) (aS aa) (by simp only [LL];omega) (by simp only [LL];omega)) ?_
   refine QC (.int .u64 (eX k:Int)) (fun α=>⟨[⟨.int .i64 k,0,[]⟩],QP,⟨rfl,k,rfl,hzf,rfl⟩,ap rfl⟩) ?_
   refine aO (Value.agg (((acc++[1#8])++bZ (eX k)).flatMap c8).toArray) (fun α=>⟨[⟨.int .u64 (eX k:Int),0,[]⟩],QP,mY.b5 (mK rfl hu (by simp only [LL];omega)) (Eq.trans (b:=[Value.agg (acc.flatMap c8).toArray,Value.agg (([1#8]).flatMap c8).toArray].flatMap ae) aa (by simp [ae]))⟩) rfl ?_
   refine QC (.int .i64 ((i+1:Nat):Int)) (fun α=>QI i) ?_
   exact bO fun α=>⟨⟨i+1,Eq.trans (b:=[.int .i64 ((i+1:Nat):Int),.agg ([Value.agg (((acc++[1#8])++bZ (eX k)).flatMap c8).toArray].flatMap ae).toArray]) aa (by rw [htk];simp [ae,fb]),ab⟩,cast aa (show n-((i+1:Nat):Int).toNat<n-(i:Int).toNat by omega)⟩
  | s b =>
   have hzs:b.size≤1048576:=hzf
   have hBn:=cU 9 b.size ab
   refine Fz 2 aj aa fun t ht=>?_
   cases (Option.some.inj ht)
   refine QC (Value.agg (([2#8]).flatMap c8).toArray) (fun α=>az (f:=c8) (l1:=acc) (l2:=[2#8]) al w6 aj (bz aa) (aS aa) (by simp only [LL];omega) (by simp only [LL];omega)) ?_
   refine QB (.int .i64 (b.size:Int)) ?_
   refine QC (.int .u64 (b.size:Int)) (fun α=>Eq.trans (b:=some (.int .u64 (IntKind.u64.wrap (b.size:Int)))) aa (by rw [eZ];congr 2;omega)) ?_
   refine aO (Value.agg (((acc++[2#8])++bZ b.size).flatMap c8).toArray) (fun α=>⟨[⟨.int .u64 (b.size:Int),0,[]⟩],QP,mY.b5 (mK rfl ab (by simp only [LL];omega)) (Eq.trans (b:=[Value.agg (acc.flatMap c8).toArray,Value.agg (([2#8]).flatMap c8).toArray].flatMap ae) aa (by simp [ae]))⟩) rfl ?_
   have hcl:∀ l:List W8,(l.flatMap c8).length=l.length:=fun l=>by induction l with
    | nil=>rfl
    | cons a l ih=>simp only [List.flatMap_cons,List.length_append,aQ,List.length_cons,ih];omega
   refine aO (Value.agg ((sb b).flatMap c8).toArray) (fun α=>⟨b,aa,?_,?_,by rw [nR]⟩) rfl ?_
   ·rw [show ae _=(((acc++[2#8])++bZ b.size).flatMap c8) from bz aa,hcl];simp only [LL];omega
   ·rw [show ae _=(((acc++[2#8])++bZ b.size).flatMap c8) from bz aa,hcl];simp only [LL];omega
   refine QC (.int .i64 ((i+1:Nat):Int)) (fun α=>QI i) ?_
   exact bO fun α=>⟨⟨i+1,Eq.trans (b:=[.int .i64 ((i+1:Nat):Int),.agg ([Value.agg (((acc++[2#8])++bZ b.size).flatMap c8).toArray,Value.agg ((sb b).flatMap c8).toArray].flatMap ae).toArray]) aa (by rw [htk];simp [ae,fb]),ab⟩,cast aa (show n-((i+1:Nat):Int).toNat<n-(i:Int).toNat by omega)⟩
 have h8:i=n:=by have:=of_decide_eq_false h8;omega
 refine aK fun α W _ hR hS=>?_
 have he:acc=aG fl:=by rw [← hacc,List.take_of_length_le ab];unfold aG;rw [hln];simp
 rw [← he]
 exact NR hS (n:=12) (b:=(⟨[(.x 7 [])],5,(.row 1)⟩:ak)) aa rfl (hR 12 _ aa) (Eq.trans (b:=[Value.agg (acc.flatMap c8).toArray].flatMap ae) aa (by simp [ae]))
def NW(w:World)(u:Nat→Nat→Value)(v:Value)(Y:World):Prop:=∃ b0 b1,v=u b0 b1∧b0≠b1∧w.heap.size≤b0∧w.heap.size≤b1∧Y.heap[b0]?=some (.cells #[.pointer (some ⟨b1,0,none⟩)] 145 (0,0)) ∧
 Y.heap[b1]?=some (.cells #[.nilFunc,.func (.func 131) #[] #[],.func (.func 134) #[] #[],.func (.func 135) #[] #[.pointer (some ⟨b0,0,none⟩)]] 174 (0,0))
theorem NW.step{w Y Y':World}{u:Nat→Nat→Value}{v:Value}(h:NW w u v Y)(hb:Below Y.heap.size Y Y'):NW w u v Y':=by
 obtain⟨b0,b1,h1,h2,h3,h4,h5,h6⟩:=h
 exact⟨b0,b1,h1,h2,h3,h4,(hb.block b0 (Array.getElem?_eq_some_iff.1 h5).1).trans h5,(hb.block b1 (Array.getElem?_eq_some_iff.1 h6).1).trans h6⟩
def I0:List SX.V:=[]
def CG:SX.Tree :=
(.ret (.p 0 0) [(some ⟨[(.k .nilFunc),(.f (.func 131) [] []),(.f (.func 134) [] []),(.f (.func 135) [] [(.p 1 0)])],174,.cells⟩),(some ⟨[(.p 0 0)],145,.cells⟩)] [])
theorem L7(K A:QV):QU (sU K A) ⟨fun f=>true,[],1,100⟩ 113 Tryz.f113 I0 []=CG:=aa
theorem s9(w:World):Calls Tryz.prog 113 #[] w fun e w'=>∃ v,e=.returned v∧NW w (fun _ b1=>.pointer (some ⟨b1,0,none⟩)) v w'∧Below w.heap.size w w':=by
 refine QG (L7 QW QW) [] (fo _ _) Tryz.func113 (fun W _=>cD (fun _ _ _ h=>h) W) ?_
 unfold CG
 refine aK fun α W _ hR hS=>?_
 have m1:(⟨(α 0).b,#[.nilFunc,.func (.func 131) #[] #[],.func (.func 134) #[] #[],.func (.func 135) #[] #[.pointer (some ⟨(α 1).b,0,none⟩)]],.cells 174⟩:Ch)∈aU [] α 0 [(some ⟨[(.k .nilFunc),(.f (.func 131) [] []),(.f (.func 134) [] []),(.f (.func 135) [] [(.p 1 0)])],174,.cells⟩),(some ⟨[(.p 0 0)],145,.cells⟩)]:=List.Mem.head _
 have m2:(⟨(α 1).b,#[.pointer (some ⟨(α 0).b,0,none⟩)],.cells 145⟩:Ch)∈aU [] α 0 [(some ⟨[(.k .nilFunc),(.f (.func 131) [] []),(.f (.func 134) [] []),(.f (.func 135) [] [(.p 1 0)])],174,.cells⟩),(some ⟨[(.p 0 0)],145,.cells⟩)]:=List.Mem.tail _ (List.Mem.head _)
 refine⟨_,rfl,⟨(α 1).b,(α 0).b,rfl,fun he=>?_,(hS.DF m2).resolve_right nofun,(hS.DF m1).resolve_right nofun,hS.at_ m2,hS.at_ m1⟩,hS.below⟩
 have:=hS.nodup
 have e:bk (aU [] α 0 [(some ⟨[(.k .nilFunc),(.f (.func 131) [] []),(.f (.func 134) [] []),(.f (.func 135) [] [(.p 1 0)])],174,.cells⟩),(some ⟨[(.p 0 0)],145,.cells⟩)]) []=[(α 0).b,(α 1).b]:=rfl
 rw [e]at this
 simp [he]at this
theorem aH.at_{w W:World}{h:Value}{b:Nat}{t:TypeId}{cells tl:List Value}{sz:Nat}(hr:iP sz h b t cells tl W)(hb:w.heap.size≤b):aH w W [] h sz cells:=by
 rcases hr with ⟨rfl,rfl⟩|⟨len,cap,rfl,h1,h2,h3,h4,h5⟩
 ·exact .nil
 refine⟨⟨_,_,_,rfl,h3⟩,⟨?_,h3⟩,.inl fun ad k c e _=>?_⟩
 ·refine Rd.mL h5 h1 fun j u hu=>?_
  rw [Nat.zero_add]
  have:(cells++tl)[j]?=some u:=by rw [List.getElem?_append_left (List.getElem?_eq_some_iff.1 hu).1];exact hu
  simpa using this
 cases e
 exact hb
set_option maxHeartbeats 1000000 in
theorem Aj(fl:List Fl)(A:Option Addr)(n c:Nat)(w:World)(hr:Rd w 4 A n (gS fl))(hn:n≤1048576)(hc:n≤c)(hfit:∀ z∈fl,z.fits) :
 Calls Tryz.prog 83 #[.agg #[.int .i64 3,.int .i64 0,.string ⟨#[]⟩,.slice A n c]] w fun e w'=>Below w.heap.size w w'∧∃ hdr,e=.returned (.tuple #[hdr,.int .i64 0])∧aH w w' [] hdr 1 ((aG fl).flatMap c8):=by
 have hS:=St.start w
 have h1:∀ u∈[Value.int .i64 3,.int .i64 0,.string ⟨#[]⟩,.slice A n c],u.oneCell'=true:=by
  intro u hu
  simp only [List.mem_cons,List.not_mem_nil,or_false]at hu
  rcases hu with rfl|rfl|rfl|rfl<;>rfl
 go_enter Tryz.func83,Tryz.ntmps83
 go_wp2_with (first
  | ((first|(with_reducible refine wpList_plain (o:=⟨some 1,.box _ _,_,_,_,_⟩) rfl fun K hK=>?_)|((with_reducible refine BigFrame.wpList_want (o:=⟨some 1,.box _ _,_,_,_,_⟩) ?_ fun K hK=>?_);· rfl));(first|refine iL rfl (dm rfl) hS ?_|refine iK rfl (dm rfl) rfl hS ?_);clear hS;intro k1 W hS hBw hk0;clear hBw hk0;refine hK _ _ ?_;clear hK K)
  | ((first|(with_reducible refine wpList_plain (o:=⟨_,.load _ _,_,_,_,_⟩) rfl fun K hK=>?_)|((with_reducible refine BigFrame.wpList_want (o:=⟨_,.load _ _,_,_,_,_⟩) ?_ fun K hK=>?_);· rfl));(first|refine eG rfl (dm rfl) hS (by repeat (first|exact List.Mem.head _|apply List.Mem.tail)) rfl (by first|rfl|assumption) ?_|refine eQ rfl (dm rfl) hS (by repeat (first|exact List.Mem.head _|apply List.Mem.tail)) rfl (by first|assumption|rfl) ?_|refine eH rfl (dm rfl) hS (by repeat (first|exact List.Mem.head _|apply List.Mem.tail)) rfl rfl (by first|assumption|exact of_decide_eq_true rfl|(simp;omega)) (by assumption) ?_|refine eF rfl (dm rfl) rfl (by assumption) (by first|assumption|rfl) ?_|refine cx rfl (dm rfl) rfl (by assumption) ?_);refine hK _ _ ?_;clear hK K))
 have hcon:(Calls Tryz.prog 112 #[.agg #[.int .i64 3,.int .i64 0,.string ⟨#[]⟩,.slice A n c]] W fun e w'=>e=.returned (.int .i64 0)∧Below W.heap.size W w'):=Ak fl A n c W (hr.below hS.below) ab hc
 refine hcon.mono ?_
 clear hcon
 rintro e w' ⟨rfl,hB⟩
 replace hS:=hS.step hB
 clear hB
 go_wp2_with (first
  | ((first|(with_reducible refine wpList_plain (o:=⟨some 1,.box _ _,_,_,_,_⟩) rfl fun K hK=>?_)|((with_reducible refine BigFrame.wpList_want (o:=⟨some 1,.box _ _,_,_,_,_⟩) ?_ fun K hK=>?_);· rfl));(first|refine iL rfl (dm rfl) hS ?_|refine iK rfl (dm rfl) rfl hS ?_);clear hS;intro k1 W hS hBw hk0;clear hBw hk0;refine hK _ _ ?_;clear hK K)
  | ((first|(with_reducible refine wpList_plain (o:=⟨_,.load _ _,_,_,_,_⟩) rfl fun K hK=>?_)|((with_reducible refine BigFrame.wpList_want (o:=⟨_,.load _ _,_,_,_,_⟩) ?_ fun K hK=>?_);· rfl));(first|refine eG rfl (dm rfl) hS (by repeat (first|exact List.Mem.head _|apply List.Mem.tail)) rfl (by first|rfl|assumption) ?_|refine eQ rfl (dm rfl) hS (by repeat (first|exact List.Mem.head _|apply List.Mem.tail)) rfl (by first|assumption|rfl) ?_|refine eH rfl (dm rfl) hS (by repeat (first|exact List.Mem.head _|apply List.Mem.tail)) rfl rfl (by first|assumption|exact of_decide_eq_true rfl|(simp;omega)) (by assumption) ?_|refine eF rfl (dm rfl) rfl (by assumption) (by first|assumption|rfl) ?_|refine cx rfl (dm rfl) rfl (by assumption) ?_);refine hK _ _ ?_;clear hK K))
 refine sT 8 aa aa aa (fun i v Y=>match i with|0=>NW w (fun _ b1=>.pointer (some ⟨b1,0,none⟩)) v Y|1=>v=.pointer (some ⟨k1,0,none⟩)|2=>v=.int .i64 3|3=>NW w (fun _ b1=>.pointer (some ⟨b1,0,none⟩)) v Y|4=>NW w (fun _ b1=>.pointer (some ⟨b1,3,none⟩)) v Y|5=>NW w (fun _ b1=>.pointer (some ⟨b1,3,none⟩)) v Y|6=>NW w (fun b0 _=>.func (.func 135) #[] #[.pointer (some ⟨b0,0,none⟩)]) v Y|7=>v=.agg #[.int .i64 3,.int .i64 0,.string ⟨#[]⟩,.slice A n c]|_=>True)
  (fun Z=>Below w'.heap.size w' Z) (fun Z Z'=>Below Z.heap.size Z Z') ?_ (Below.refl _ _).drew ?_ ?_
 ·intro i v Z Z' hb hv
  match i with
  | 0 =>
   exact hv.step hb
  | 3 =>
   exact hv.step hb
  | 4 =>
   exact hv.step hb
  | 5 =>
   exact hv.step hb
  | 6 =>
   exact hv.step hb
  | 1|2|7|_+8=>exact hv
 ·refine⟨?_,?_,?_,?_,?_,?_,?_,?_,trivial⟩
  all_goals refine AE rfl fun b' W' K hf hd hF hK=>?_
  all_goals have hS:=hS.step hF
  ·refine iM (vs:=#[]) rfl rfl ai (Tryz.call113 _ _) (R:=fun v W2=>NW W' (fun _ b1=>.pointer (some ⟨b1,0,none⟩)) v W2∧Below W'.heap.size W' W2) ((s9 W').mono fun e W2 h=>by obtain⟨v,h1,h2,h3⟩:=h;exact⟨v,h1,h2,h3⟩) ?_
   rintro v W2 ⟨hn2,hb2⟩
   exact hK _ _ (fun _=>by obtain⟨b0,b1,g1,g2,g3,g4,g5⟩:=hn2;exact⟨b0,b1,g1,g2,Nat.le_trans hS.below.size g3,Nat.le_trans hS.below.size g4,g5⟩) (hF.trans (hb2.mono hF.size)) hb2
  ·have e1:=(hf 1 rfl).trans (dm rfl)
   exact kj rfl e1 rfl (hK _ _ al hF (Below.refl _ _))
  ·have e11:b'.eval (.tmp 11)=.pointer (some ⟨k1,0,none⟩):=hd ⟨1,.data⟩ ai rfl 11 rfl
   first|exact eG rfl e11 hS (by repeat (first|exact List.Mem.head _|apply List.Mem.tail)) rfl (by first|rfl|assumption) (hK _ _ al hF (Below.refl _ _))|exact eQ rfl e11 hS (by repeat (first|exact List.Mem.head _|apply List.Mem.tail)) rfl (by first|assumption|rfl) (hK _ _ al hF (Below.refl _ _))|exact eH rfl e11 hS (by repeat (first|exact List.Mem.head _|apply List.Mem.tail)) rfl rfl (by first|assumption|exact of_decide_eq_true rfl|(simp;omega)) (by assumption) (hK _ _ al hF (Below.refl _ _))|exact cx rfl e11 rfl (by assumption) (hK _ _ al hF (Below.refl _ _))
  ·have s10:=hd ⟨0,.data⟩ ai rfl 10 rfl
   obtain⟨b0,b1,g1,g2⟩:=s10
   exact IK rfl g1 (hK _ _ (fun _=>⟨b0,b1,rfl,g2⟩) hF (Below.refl _ _))
  ·have s13:=hd ⟨3,.data⟩ ai rfl 13 rfl
   have e12:b'.eval (.tmp 12)=.int .i64 3:=hd ⟨2,.data⟩ ai rfl 12 rfl
   obtain⟨b0,b1,g1,g2⟩:=s13
   exact jK rfl g1 e12 rfl ab ab rfl (by rfl) (hK _ _ (fun _=>⟨b0,b1,rfl,g2⟩) hF (Below.refl _ _))
  ·have s14:=hd ⟨4,.data⟩ ai rfl 14 rfl
   obtain⟨b0,b1,g1,g2⟩:=s14
   exact kj rfl g1 rfl (hK _ _ (fun _=>⟨b0,b1,rfl,g2⟩) hF (Below.refl _ _))
  ·have s15:=hd ⟨5,.data⟩ ai rfl 15 rfl
   obtain⟨b0,b1,g1,g2⟩:=s15
   exact cx rfl g1 rfl (by rw [cell_of_row _ _ _ _ _ (0,0) g2.2.2.2.2];rfl) (hK _ _ (fun _=>⟨b0,b1,rfl,g2⟩) hF (Below.refl _ _))
  have e1:=(hf 1 rfl).trans (dm rfl)
  first|exact eG rfl e1 hS (by repeat (first|exact List.Mem.head _|apply List.Mem.tail)) rfl (by first|rfl|assumption) (hK _ _ al hF (Below.refl _ _))|exact eQ rfl e1 hS (by repeat (first|exact List.Mem.head _|apply List.Mem.tail)) rfl (by first|assumption|rfl) (hK _ _ al hF (Below.refl _ _))|exact eH rfl e1 hS (by repeat (first|exact List.Mem.head _|apply List.Mem.tail)) rfl rfl (by first|assumption|exact of_decide_eq_true rfl|(simp;omega)) (by assumption) (hK _ _ al hF (Below.refl _ _))|exact cx rfl e1 rfl (by assumption) (hK _ _ al hF (Below.refl _ _))
 intro vs W3 hv hF
 have hSb:=hS
 replace hS:=hS.step hF
 obtain⟨b0,b1,va,hne,hb0,hb1,hc0,hc1⟩:=hv 6 16 rfl
 have vb:vs 7=.agg #[.int .i64 3,.int .i64 0,.string ⟨#[]⟩,.slice A n c]:=hv 7 17 rfl
 clear hF hv
 simp only [iB,Nat.reduceAdd,List.take_succ_cons,List.take_zero,List.drop_succ_cons,List.drop_zero,List.setIfInBounds_toArray,List.set_cons_zero,List.set_cons_succ,va,vb]
 clear va vb
 go_wp2_with (first
  | ((first|(with_reducible refine wpList_plain (o:=⟨some 1,.box _ _,_,_,_,_⟩) rfl fun K hK=>?_)|((with_reducible refine BigFrame.wpList_want (o:=⟨some 1,.box _ _,_,_,_,_⟩) ?_ fun K hK=>?_);· rfl));(first|refine iL rfl (dm rfl) hS ?_|refine iK rfl (dm rfl) rfl hS ?_);clear hS;intro k1 W hS hBw hk0;clear hBw hk0;refine hK _ _ ?_;clear hK K)
  | ((first|(with_reducible refine wpList_plain (o:=⟨_,.load _ _,_,_,_,_⟩) rfl fun K hK=>?_)|((with_reducible refine BigFrame.wpList_want (o:=⟨_,.load _ _,_,_,_,_⟩) ?_ fun K hK=>?_);· rfl));(first|refine eG rfl (dm rfl) hS (by repeat (first|exact List.Mem.head _|apply List.Mem.tail)) rfl (by first|rfl|assumption) ?_|refine eQ rfl (dm rfl) hS (by repeat (first|exact List.Mem.head _|apply List.Mem.tail)) rfl (by first|assumption|rfl) ?_|refine eH rfl (dm rfl) hS (by repeat (first|exact List.Mem.head _|apply List.Mem.tail)) rfl rfl (by first|assumption|exact of_decide_eq_true rfl|(simp;omega)) (by assumption) ?_|refine eF rfl (dm rfl) rfl (by assumption) (by first|assumption|rfl) ?_|refine cx rfl (dm rfl) rfl (by assumption) ?_);refine hK _ _ ?_;clear hK K))
 have hcon:=Fo fl A n c b0 b1 W3 (fun W' h=>hr.aJ ⟨Nat.le_trans hS.below.size h.size,fun k hk _=>(h.block k (by have:=hS.below.size;omega) aw).trans (hS.below.block k hk)⟩) hn hc hfit hne hc0 hc1
 refine hcon.mono ?_
 clear hcon
 rintro e w4 ⟨h',b',tl',rfl,o1,o2,o3,hsm,hrow,hb'⟩
 have hbw:=hS.below
 have hbel:Below w.heap.size w w4:=⟨o1.trans hbw.os,o2.trans hbw.tape,o3.trans hbw.output,Nat.le_trans hbw.size hsm.size,fun k hk=>(hsm.block k (by have:=hbw.size;omega) aw).trans (hbw.block k hk)⟩
 have hret:=aH.at_ (w:=w) hrow (by have:=hbw.size;rcases hb' with hb'|hb';(simp at hb';omega);omega)
 clear hS hSb hsm hrow hb' o1 o2 o3 hbw
 have hS:=St.start w4
 go_wp2_with (first
  | ((first|(with_reducible refine wpList_plain (o:=⟨some 1,.box _ _,_,_,_,_⟩) rfl fun K hK=>?_)|((with_reducible refine BigFrame.wpList_want (o:=⟨some 1,.box _ _,_,_,_,_⟩) ?_ fun K hK=>?_);· rfl));(first|refine iL rfl (dm rfl) hS ?_|refine iK rfl (dm rfl) rfl hS ?_);clear hS;intro k1 W hS hBw hk0;clear hBw hk0;refine hK _ _ ?_;clear hK K)
  | ((first|(with_reducible refine wpList_plain (o:=⟨_,.load _ _,_,_,_,_⟩) rfl fun K hK=>?_)|((with_reducible refine BigFrame.wpList_want (o:=⟨_,.load _ _,_,_,_,_⟩) ?_ fun K hK=>?_);· rfl));(first|refine eG rfl (dm rfl) hS (by repeat (first|exact List.Mem.head _|apply List.Mem.tail)) rfl (by first|rfl|assumption) ?_|refine eQ rfl (dm rfl) hS (by repeat (first|exact List.Mem.head _|apply List.Mem.tail)) rfl (by first|assumption|rfl) ?_|refine eH rfl (dm rfl) hS (by repeat (first|exact List.Mem.head _|apply List.Mem.tail)) rfl rfl (by first|assumption|exact of_decide_eq_true rfl|(simp;omega)) (by assumption) ?_|refine eF rfl (dm rfl) rfl (by assumption) (by first|assumption|rfl) ?_|refine cx rfl (dm rfl) rfl (by assumption) ?_);refine hK _ _ ?_;clear hK K))
 refine bodyPost_ret (Eo rfl rfl rfl) rfl ⟨hbel,h',rfl,hret⟩
theorem aH.OA{C:SX.Cx}{f:FuncId}{as':List SX.Arg}{W W':World}{e:Ending}{k:Int}{cells:List Value}{sz:Nat}(hs:C.sh f=.tp [.sl sz,.one])(h:Below W.heap.size W W'∧∃ hdr,e=.returned (.tuple #[hdr,.int .i64 k])∧aH W W' [] hdr sz cells) :
 Below W.heap.size W W'∧∃ hdr,e=.returned ((C.sh f).fill hdr (.tuple #[.agg cells.toArray,.int .i64 k]))∧∀ p z,(p,z)∈(C.sh f).ti []→mX C f as' W W' hdr z (ae (p.foldl SX.comp (.tuple #[.agg cells.toArray,.int .i64 k]))):=by
 obtain⟨hb,hdr,he,h1,h2,h3⟩:=h
 refine⟨hb,hdr,by rw [hs,he];rfl,fun p z hp=>?_⟩
 rw [hs]at hp
 obtain⟨rfl,rfl⟩:p=[0]∧z=sz:=by simpa [SX.Sh.ti,SX.Sh.Bv]using hp
 refine⟨h1,h2,.inl (h3.resolve_right ?_)⟩
 rintro⟨y,hy,_⟩
 cases hy
theorem aH.tc{C:SX.Cx}{f:FuncId}{as':List SX.Arg}{W W':World}{e:Ending}{cells:List Value}{sz:Nat}(hs:C.sh f=.sl sz)(h:Below W.heap.size W W'∧∃ hdr,e=.returned hdr∧aH W W' [] hdr sz cells) :
 Below W.heap.size W W'∧∃ hdr,e=.returned ((C.sh f).fill hdr (.agg cells.toArray))∧∀ p z,(p,z)∈(C.sh f).ti []→mX C f as' W W' hdr z (ae (p.foldl SX.comp (.agg cells.toArray))):=by
 obtain⟨hb,hdr,he,h1,h2,h3⟩:=h
 refine⟨hb,hdr,by rw [hs,he];rfl,fun p z hp=>?_⟩
 rw [hs]at hp
 obtain⟨rfl,rfl⟩:p=[]∧z=sz:=by simpa [SX.Sh.ti]using hp
 refine⟨h1,h2,.inl (h3.resolve_right ?_)⟩
 rintro⟨y,hy,_⟩
 cases hy
theorem aH.vD{w W:World}{hp:List (Option ak)}{ps:List (World→Prop)}{ρ:List Value}{α:Nat→SX.AV}{sz:Nat}{C:SX.Cx}(hS:St ⟨w,[],SX.Af C,SX.Bf C⟩ (aU ρ α 0 hp) [] (gZ ⟨w,[],SX.Af C,SX.Bf C⟩ ρ α 0 hp++ps) W){n:Nat}{b:ak}(hb:hp[n]?=some (some b))(hk:b.k=.ext sz)(hr:b.bB ρ α n){cells:List Value}(hc:b.xs ρ α=cells)(hA:∀ W2,SX.Af C W2)(hB:∀ B,SX.Bf C B):aH w W [] ((α n).h) sz cells:=by
 obtain⟨h1,h2,h3⟩:=aH.ext hS hb hk hr hc (roots:=[⟨.slice none 0 0,0,[]⟩]) (x:=⟨.slice none 0 0,0,[]⟩) ai (fun W2 _=>hA W2) (fun B _=>hB B)
 refine⟨h1,h2,.inl ?_⟩
 rcases h3 with h3|⟨x,hx,_,h4⟩
 ·exact h3
 obtain rfl:x=⟨.slice none 0 0,0,[]⟩:=af hx
 exact h4 _ (fun ad n c e _=>by cases e)
theorem th(tx:ByteArray):(tx.data.toList.map fun b=>Value.int .u8 (b.toNat:Int))=(sb tx).flatMap c8:=nR tx
theorem lJ(l:List W8)(k:Int):SX.Sh.fit (.tp [.sl 1,.one]) (.tuple #[.agg (l.flatMap c8).toArray,.int .i64 k])=true:=by
 have h2:(l.flatMap c8).all (·.oneCell')=true:=by
  rw [List.all_eq_true]
  intro u hu
  obtain⟨a,_,h⟩:=List.mem_flatMap.1 hu
  exact w6 a u h
 have h1:(l.flatMap c8).length % 1=0:=Nat.mod_one _
 simp only [SX.Sh.fit,SX.Sh.dL,h1,h2]
 rfl
inductive mw where
 | n (k:Int)
 | s (A:Option Addr) (n c:Nat) (tx:ByteArray)
def m7:mw→List Value
 | .n k=>[.iface 3 (.int .i64 k)]
 | .s A n c _=>[.iface 46 (.slice A n c)]
def ir:mw→Fl
 | .n k=>.n k
 | .s _ _ _ tx=>.s tx
theorem kF(z:mw):(m7 z).length=1:=by cases z<;>rfl
def FE(l:List mw):List Value:=l.flatMap m7
theorem BL(l:List mw):(FE l).length=l.length:=by have:=SX.aL (f:=m7) kF l;rw [Nat.mul_one]at this;exact this
def Qn(K:QV)(f:FuncId)(xs:List SX.Arg)(v:Value):Prop:=f=83∧∃ (hdr:Value) (fl:List Fl),xs=[⟨.agg #[.int .i64 3,.int .i64 0,.string ⟨#[]⟩,hdr],0,[]⟩]∧K hdr 4 (gS fl)∧fl.length≤1048576∧(∀ z∈fl,z.fits)∧v=.tuple #[.agg ((aG fl).flatMap c8).toArray,.int .i64 0]
def N6:FuncId→Option SX.Sh:=fun f=>if f=83 then some (.tp [.sl 1,.one])else none
noncomputable def Jh(K A:QV):SX.Cx:={ P:=Tryz.prog,R:=Qn,shp:=N6,K:=K,A:=A,trm:=true }
theorem vA{K:QV}{xs:List SX.Arg}{v:Value}{W:World}{hdr:Value}{fl:List Fl}(hx:xs=[⟨.agg #[.int .i64 3,.int .i64 0,.string ⟨#[]⟩,hdr],0,[]⟩])(hk:SX.Arg.rd W ⟨hdr,4,gS fl⟩)(hl:fl.length≤1048576)(hf:∀ z∈fl,z.fits) :
 Calls Tryz.prog 83 (xs.map SX.Arg.v).toArray W fun e w'=>Below W.heap.size W w'∧∃ hdr,e=.returned (.tuple #[hdr,.int .i64 0])∧aH W w' [] hdr 1 ((aG fl).flatMap c8):=by
 subst hx
 obtain⟨A,n,c,rfl,h2,h3,h4⟩:=jZ hk
 exact Aj fl A n c W h2 ab h3 hf
theorem LR(K A:QV):(Jh K A).Ok:=by
 refine SX.Cx.b6 al ?_
 intro K f xs v W hR hrd hKf
 obtain⟨rfl,hdr,fl,hx,hk,hl,hf,rfl⟩:=hR
 exact Calls.mono (vA (K:=K) (v:=undef) hx (hKf _ _ _ hk) hl hf) fun e w' h=>aH.OA rfl h
def zR:List SX.V:=[.x 0 []]
def sI:SX.Tree :=
(.df (.len false) [(.q 0)] .one
(.loop [(.i 0),(.cat [])] [.one,.any]
(.df (.bin .lss 3) [(.q 2),(.q 1)] .one
(.br 4 []
(.df .bnd [(.q 0),(.q 2)] .one
(.df (.elem 1 0) [(.q 0),(.q 2)] .one
(.df (.tya 3) [(.q 6)] (.tp [.one,.one])
(.br 7 [1]
(.df (.dN 4 56 (.own 4 [(.i 1),(.x 7 [0]),(.k (.string ⟨#[]⟩)),(.k (.slice none 0 0))])) [(.cat [(.q 3)]),(.sl 4 0 1 1)] .any
(.df (.bin .add 3) [(.q 2),(.i 1)] .one
(.again 0 [(.q 9),(.cat [(.q 3),(.q 8)])])))
(.df (.tya 46) [(.q 6)] (.tp [.one,.one])
(.br 8 [1]
(.df .b2sx [(.x 8 [0])] .one
(.df (.dN 4 56 (.own 4 [(.i 2),(.i 0),(.q 9),(.k (.slice none 0 0))])) [(.cat [(.q 3)]),(.sl 4 0 1 1)] .any
(.df (.bin .add 3) [(.q 2),(.i 1)] .one
(.again 0 [(.q 11),(.cat [(.q 3),(.q 10)])]))))
(.df (.bin .add 3) [(.q 2),(.i 1)] .one
(.again 0 [(.q 9),(.cat [(.q 3)])]))))))))
(.df (.callg 83 [.no] [(.row 4 [(.q 3)])]) [(.a [(.i 3),(.i 0),(.k (.string ⟨#[]⟩)),(.row 3)]),(.row 3)] (.tp [(.sl 1),.one])
(.ret (.row 4) [none,none,none,none,(some ⟨[(.x 5 [0])],0,(.ext 1)⟩)] []))))))
theorem EX(K A:QV):QU (Jh K A) ⟨fun f=>true,[⟨46,3,[(.s 13,.one),(.c 0 3,.row 4 85)]⟩],2,100⟩ 46 Tryz.f46 zR [.one]=sI:=aa
def OE(A:Option Addr)(n c:Nat)(fs:List mw)(s:Value)(sz:Nat)(cells:List Value):Prop:=(s=.slice A n c∧sz=1∧cells=FE fs)∨∃ B m d tx,mw.s B m d tx∈fs∧s=.slice B m d∧sz=1∧cells=(sb tx).flatMap c8
theorem E6(fs:List mw)(A:Option Addr)(n c:Nat)(w:World)(hr:Rd w 1 A n (FE fs))(hn:n≤1048576)(hc:n≤c)(htx:∀ B m d tx,mw.s B m d tx∈fs→Rd w 1 B m ((sb tx).flatMap c8)∧m≤d)(hfit:∀ z∈fs,(ir z).fits) :
 RS 46 #[.slice A n c] w 1 ((aG (fs.map ir)).flatMap c8):=by
 refine QG (EX (OE A n c fs) QW) [.slice A n c] (LR _ _) Tryz.func46 ?_ ?_
 ·rintro W hW s sz cells (⟨rfl,rfl,rfl⟩|⟨B,m,d,tx,hm,rfl,rfl,rfl⟩)
  ·exact⟨hr.aJ hW,hc⟩
  exact⟨(htx B m d tx hm).1.aJ hW,(htx B m d tx hm).2⟩
 have hA:=SX.rd_some hr
 have hln:fs.length=n:=by have:=hr.1;rw [BL]at this;omega
 have k1:OE A n c fs (.slice A n c) 1 (FE fs):=.inl ⟨rfl,rfl,rfl⟩
 unfold sI
 refine QB (.int .i64 (n:Int)) ?_
 refine ck (fun xs=>∃ (i:Nat),xs=[.int .i64 (i:Int),.agg (gS ((fs.take i).map ir)).toArray]∧i≤n) (fun xs=>match xs with|.int _ i::_=>n-i.toNat|_=>0) (fun α=>⟨0,Eq.trans (b:=[.int .i64 0,.agg #[]]) aa (by simp [gS]),ab⟩) ?_
 rintro xs-⟨i,rfl,hin⟩
 have hml:((fs.take i).map ir).length≤n:=by rw [List.length_map,List.length_take];omega
 refine QB (.bool (decide ((i:Int)<(n:Int)))) ?_
 refine QD (decide ((i:Int)<(n:Int))) (fun h4=>?_) (fun h4=>?_)
 ·have h4:i<n:=by have:=of_decide_eq_true h4;omega
  obtain⟨z,hz⟩:∃ z,fs[i]?=some z:=⟨_,List.getElem?_eq_getElem ab⟩
  have hzm:=List.mem_of_getElem? hz
  have htk:gS ((fs.take (i+1)).map ir)=gS ((fs.take i).map ir)++aR (ir z):=by rw [List.take_add_one,hz];simp [gS]
  refine QM A n c i hA h4 ?_
  cases z with
  | n k =>
   refine QC (.iface 3 (.int .i64 k)) (fun α=>cS (o:=0) (v:=.iface 3 (.int .i64 k)) (f:=m7) (l:=fs) (A:=A) (n:=n) (c:=c) (j:=i) (z:=.n k) kF hA aa aa h4 k1 hz aj rfl) ?_
   refine QC (.tuple #[.int .i64 k,.bool true]) (fun α=>⟨3,.int .i64 k,.int .i64 0,aa,aa,rfl⟩) ?_
   refine QD true (fun _=>?_) (fun h=>nomatch h)
   refine QC (Value.agg (([Fl.n k]).flatMap aR).toArray) (fun α=>az (f:=aR) (l1:=(fs.take i).map ir) (l2:=[Fl.n k]) aY bM aj (bz aa) (aS aa) (by simp only [LL];omega) (by simp only [LL];omega)) ?_
   refine QC (.int .i64 ((i+1:Nat):Int)) (fun α=>QI i) ?_
   exact bO fun α=>⟨⟨i+1,Eq.trans (b:=[.int .i64 ((i+1:Nat):Int),.agg ([Value.agg (gS ((fs.take i).map ir)).toArray,Value.agg (([Fl.n k]).flatMap aR).toArray].flatMap ae).toArray]) aa (by rw [htk];simp [ae,ir]),ab⟩,cast aa (show n-((i+1:Nat):Int).toNat<n-(i:Int).toNat by omega)⟩
  | s B m d tx =>
   refine QC (.iface 46 (.slice B m d)) (fun α=>cS (o:=0) (v:=.iface 46 (.slice B m d)) (f:=m7) (l:=fs) (A:=A) (n:=n) (c:=c) (j:=i) (z:=.s B m d tx) kF hA aa aa h4 k1 hz aj rfl) ?_
   refine QC (.tuple #[.int .i64 0,.bool false]) (fun α=>⟨46,.slice B m d,.int .i64 0,aa,aa,rfl⟩) ?_
   refine QD false (fun h=>nomatch h) (fun _=>?_)
   refine QC (.tuple #[.slice B m d,.bool true]) (fun α=>⟨46,.slice B m d,.slice none 0 0,aa,aa,rfl⟩) ?_
   refine QD true (fun _=>?_) (fun h=>nomatch h)
   refine QC (.string tx) (fun α=>⟨tx.data.toList,B,m,d,cast aa (show OE A n c fs (.slice B m d) 1 (tx.data.toList.map fun b=>Value.int .u8 (b.toNat:Int)) from by rw [th];exact .inr ⟨B,m,d,tx,hzm,rfl,rfl,rfl⟩),aa,ai⟩) ?_
   refine QC (Value.agg (([Fl.s tx]).flatMap aR).toArray) (fun α=>az (f:=aR) (l1:=(fs.take i).map ir) (l2:=[Fl.s tx]) aY bM aj (bz aa) (aS aa) (by simp only [LL];omega) (by simp only [LL];omega)) ?_
   refine QC (.int .i64 ((i+1:Nat):Int)) (fun α=>QI i) ?_
   exact bO fun α=>⟨⟨i+1,Eq.trans (b:=[.int .i64 ((i+1:Nat):Int),.agg ([Value.agg (gS ((fs.take i).map ir)).toArray,Value.agg (([Fl.s tx]).flatMap aR).toArray].flatMap ae).toArray]) aa (by rw [htk];simp [ae,ir]),ab⟩,cast aa (show n-((i+1:Nat):Int).toNat<n-(i:Int).toNat by omega)⟩
 have h4:i=n:=by have:=of_decide_eq_false h4;omega
 have htk:fs.take i=fs:=List.take_of_length_le ab
 rw [htk]at hml
 refine aO (.tuple #[.agg ((aG (fs.map ir)).flatMap c8).toArray,.int .i64 0]) (fun α=>⟨[⟨.agg #[.int .i64 3,.int .i64 0,.string ⟨#[]⟩,(α 3).h],0,[]⟩],[⟨(α 3).h,4,gS (fs.map ir)⟩],QP,⟨Eq.trans (b:=(⟨(α 3).h,4,[Value.agg (gS ((fs.take i).map ir)).toArray].flatMap ae⟩:SX.Arg)) (by rw [htk];simp [ae]) aa,trivial⟩,⟨rfl,(α 3).h,fs.map ir,rfl,.inr ai,ab,fun z hz=>by obtain⟨y,hy,rfl⟩:=List.mem_map.1 hz;exact hfit y hy,rfl⟩,ap rfl⟩) (lJ _ _) ?_
 exact aK fun α W _ hR hS=>⟨hS.below,(α 4).h,aa,aH.vD hS (n:=4) (b:=(⟨[(.x 5 [0])],0,(.ext 1)⟩:ak)) aa rfl (hR 4 _ aa) (Eq.trans (b:=[Value.agg ((aG (fs.map ir)).flatMap c8).toArray].flatMap ae) aa (by simp [ae])) (fun W2 s z xs hk=>nomatch hk) (fun B s z xs hk=>nomatch hk)⟩
def MA(K:QV)(f:FuncId)(xs:List SX.Arg)(v:Value):Prop:=f=43∧bn K∧∃ (s:ByteArray) (u:Value) (l:List W8),xs=[⟨.string s,0,[]⟩,⟨u,1,l.flatMap c8⟩]∧s.size<2 ^ 60∧l.length<2 ^ 44∧v=.agg ((kg (sb s) l).flatMap c8).toArray
theorem BA{K:QV}{f:FuncId}{xs:List SX.Arg}{v:Value}{W:World}(h:MA K f xs v)(hrd:∀ x∈xs,x.rd W)(hK:∀ s sz cells,K s sz cells→SX.Arg.rd W ⟨s,sz,cells⟩):Calls Tryz.prog f (xs.map SX.Arg.v).toArray W fun e w'=>e=.returned v∧Below W.heap.size W w':=by
 obtain⟨rfl,hL,s,u,l,rfl,h60,h44,rfl⟩:=h
 obtain⟨A,n,c,rfl,hr,hc,hn⟩:=cT (hrd ⟨u,1,l.flatMap c8⟩ ai)
 exact BB s l h60 h44 A n c W hr hc (bF hL hK)
def nz(d:List W8):Nat:=(((((((((d.getD 0 0).toNat % 128)*256+(d.getD 1 0).toNat)*256+(d.getD 2 0).toNat)*256+(d.getD 3 0).toNat)*256+(d.getD 4 0).toNat)*256+(d.getD 5 0).toNat)*256+(d.getD 6 0).toNat)*256+(d.getD 7 0).toNat) % 1073741789
theorem lC(n:Nat)(h:n<2 ^ 63):IntKind.i64.wrap (n:Int)=(n:Int):=wrap_i64 ab ab
theorem mM(n d:Nat)(h:n*256+d<2 ^ 63)(hd:d<256):aZ .or (.int .i64 ((n*256:Nat):Int)) (.int .i64 (d:Int))=some (.int .i64 ((n*256+d:Nat):Int)):=by
 simp only [aZ,if_true]
 show some (Value.int .i64 (IntKind.i64.wrap ((BitVec.ofInt 64 ((n*256:Nat):Int)|||BitVec.ofInt 64 (d:Int):BitVec 64).toNat:Int)))=_
 have e:∀ m:Nat,(BitVec.ofInt 64 (m:Int))=BitVec.ofNat 64 m:=fun m=>by apply BitVec.eq_of_toNat_eq;simp
 have m1:n*256 % 2 ^ 64=n*256:=ab
 have m2:d % 2 ^ 64=d:=ab
 rw [e,e,BitVec.toNat_or,BitVec.toNat_ofNat,BitVec.toNat_ofNat,m1,m2]
 have e2:n*256|||d=n*256+d:=by
  rw [show n*256=n<<<8 by rw [Nat.shiftLeft_eq],Nat.shiftLeft_add_eq_or_of_lt (show d<2 ^ 8 by omega)]
 rw [e2,lC _ h]
theorem or_zero(d:Nat)(h:d<2 ^ 63):aZ .or (.int .i64 0) (.int .i64 (d:Int))=some (.int .i64 (d:Int)):=by
 simp only [aZ,if_true]
 show some (Value.int .i64 (IntKind.i64.wrap ((BitVec.ofInt 64 0|||BitVec.ofInt 64 (d:Int):BitVec 64).toNat:Int)))=_
 have e:(BitVec.ofInt 64 (d:Int))=BitVec.ofNat 64 d:=by apply BitVec.eq_of_toNat_eq;simp
 rw [e,show(BitVec.ofInt 64 0)=0#64 from rfl,BitVec.zero_or,BitVec.toNat_ofNat,show d % 2 ^ 64=d by omega,lC _ h]
theorem iG(n:Nat)(h:n*256<2 ^ 63):aZ .shl (.int .i64 (n:Int)) (.int .u64 8)=some (.int .i64 ((n*256:Nat):Int)):=by
 show some (Value.int .i64 (IntKind.i64.wrap ((n:Int)*2 ^ 8)))=_
 rw [show((n:Int)*2 ^ 8)=((n*256:Nat):Int) by omega,lC _ h]
theorem KV(d:W8):aZ .and (w8 d) (.int .u8 127)=some (w8 (BitVec.ofNat 8 (d.toNat % 128))):=by
 have h:(BitVec.ofInt 8 (d.toNat:Int))=d:=by apply BitVec.eq_of_toNat_eq;simp
 simp only [aZ,w8,if_true]
 show some (Value.int .u8 (IntKind.u8.wrap ((BitVec.ofInt 8 (d.toNat:Int)&&&BitVec.ofInt 8 127:BitVec 8).toNat:Int)))=_
 rw [h,wrap_u8]
 have e:(d&&&BitVec.ofInt 8 127).toNat=d.toNat % 128:=by
  rw [BitVec.toNat_and,show(BitVec.ofInt 8 127).toNat=2 ^ 7-1 from rfl,Nat.and_two_pow_sub_one_eq_mod]
 rw [e]
theorem dz(d:W8):fF .i64 (w8 d)=some (.int .i64 ((d.toNat:Nat):Int)):=by
 simp only [fF,w8]
 rw [lC _ (by have:=d.isLt;omega)]
theorem mI(n:Nat)(h:n*256<2 ^ 63):aZ .mul (.int .i64 (n:Int)) (.int .i64 256)=some (.int .i64 ((n*256:Nat):Int)):=by
 simp only [aZ,om,if_true]
 rw [show((n:Int)*256)=((n*256:Nat):Int) by omega,lC _ h]
theorem NN(a:Nat):aZ .rem (.int .i64 (a:Int)) (.int .i64 1073741789)=some (.int .i64 ((a % 1073741789:Nat):Int)):=wu (b:=1073741789) ab
theorem L3(a:Nat):aZ .rem (.int .i64 (a:Int)) (.int .i64 128)=some (.int .i64 ((a % 128:Nat):Int)):=wu (b:=128) ab
theorem GO(d:W8):(BitVec.ofNat 8 (d.toNat % 128)).toNat=d.toNat % 128:=by
 rw [BitVec.toNat_ofNat];omega
noncomputable def OV(K A:QV):SX.Cx:={ P:=Tryz.prog,R:=MA,shp:=fun f=>if f=43 then some (.ag 32)else none,K:=K,A:=A,arr:=true,trm:=true }
theorem K5(K A:QV):(OV K A).Ok:=SX.Cx.b6 al fun _ f xs v W h hrd hK=>by
 have hf:=h.1
 exact(BA h hrd hK).mono fun e w' h=>ay (by subst hf;rfl) h
def tv:List SX.V:=[.x 0 [],.x 1 []]
def oQ:SX.Tree :=
(.df (.call 43 [.no,(.ext 1)]) [(.q 0),(.q 1)] (.ag 32)
(.df (.bin .and 5) [(.x 2 [0]),(.k (.int .u8 127))] .one
(.df (.conv .i64) [(.q 3)] .one
(.df (.bin .or 3) [(.i 0),(.q 4)] .one
(.df (.bin .shl 3) [(.q 5),(.k (.int .u64 8))] .one
(.df (.conv .i64) [(.x 2 [1])] .one
(.df (.bin .or 3) [(.q 6),(.q 7)] .one
(.df (.bin .shl 3) [(.q 8),(.k (.int .u64 8))] .one
(.df (.conv .i64) [(.x 2 [2])] .one
(.df (.bin .or 3) [(.q 9),(.q 10)] .one
(.df (.bin .shl 3) [(.q 11),(.k (.int .u64 8))] .one
(.df (.conv .i64) [(.x 2 [3])] .one
(.df (.bin .or 3) [(.q 12),(.q 13)] .one
(.df (.bin .shl 3) [(.q 14),(.k (.int .u64 8))] .one
(.df (.conv .i64) [(.x 2 [4])] .one
(.df (.bin .or 3) [(.q 15),(.q 16)] .one
(.df (.bin .shl 3) [(.q 17),(.k (.int .u64 8))] .one
(.df (.conv .i64) [(.x 2 [5])] .one
(.df (.bin .or 3) [(.q 18),(.q 19)] .one
(.df (.bin .shl 3) [(.q 20),(.k (.int .u64 8))] .one
(.df (.conv .i64) [(.x 2 [6])] .one
(.df (.bin .or 3) [(.q 21),(.q 22)] .one
(.df (.bin .shl 3) [(.q 23),(.k (.int .u64 8))] .one
(.df (.conv .i64) [(.x 2 [7])] .one
(.df (.bin .or 3) [(.q 24),(.q 25)] .one
(.df (.bin .rem 3) [(.q 26),(.i 1073741789)] .one
(.ret (.q 27) [] [])))))))))))))))))))))))))))
theorem Hs(K A:QV):QU (OV K A) ⟨fun _=>true,[],0,100⟩ 45 Tryz.f45 tv [.one,.one]=oQ:=aa
theorem Gf(s:ByteArray)(l:List W8)(hs:s.size<2 ^ 60)(hl:l.length<2 ^ 44)(A:Option Addr)(n c:Nat)(w:World)(hr:Rd w 1 A n (l.flatMap c8))(hc:n≤c)(hlaid:Laid w):RT 45 #[.string s,.slice A n c] w (.int .i64 (nz (kg (sb s) l):Int)):=by
 refine b8 (C:=OV (KS A n c l) (KS A n c l)) (G:=⟨fun _=>true,[],0,100⟩) (args:=tv) (sh:=[.one,.one]) (ρ:=[.string s,.slice A n c]) 100000 oQ (K5 _ _) Tryz.func45 rfl (cast aa (Hs (KS A n c l) (KS A n c l))) aa aa aa ?_ ?_
 ·rintro W hW v z xs (⟨rfl,rfl,rfl⟩|⟨rfl,rfl,rfl⟩|⟨rfl,rfl,rfl⟩)
  ·exact⟨hr.aJ hW,hc⟩
  ·exact⟨hlaid.1.aJ hW,Nat.le_refl _⟩
  exact⟨hlaid.2.aJ hW,Nat.le_refl _⟩
 have hL:bn (KS A n c l):=⟨.inr (.inl ⟨rfl,rfl,rfl⟩),.inr (.inr ⟨rfl,rfl,rfl⟩)⟩
 have hin:(KS A n c l) (.slice A n c) 1 (l.flatMap c8):=.inl ⟨rfl,rfl,rfl⟩
 unfold oQ
 obtain⟨g,hg⟩:=ub (n:=32) (kg (sb s) l) rfl
 refine QC (.agg (((List.range 32).map g).flatMap c8).toArray) (fun α=>by rw [← hg];exact⟨[⟨.string s,0,[]⟩,⟨.slice A n c,1,l.flatMap c8⟩],⟨aa,aa,aa,aa,cast aa hin,trivial⟩,⟨rfl,hL,s,_,l,rfl,hs,hl,rfl⟩,ap rfl⟩) ?_
 have l0:=(g 0).isLt
 have l1:=(g 1).isLt
 have l2:=(g 2).isLt
 have l3:=(g 3).isLt
 have l4:=(g 4).isLt
 have l5:=(g 5).isLt
 have l6:=(g 6).isLt
 have l7:=(g 7).isLt
 obtain⟨n0,hn0⟩:∃ z,z=(g 0).toNat % 128:=⟨_,rfl⟩
 obtain⟨n1,hn1⟩:∃ z,z=n0*256+(g 1).toNat:=⟨_,rfl⟩
 obtain⟨n2,hn2⟩:∃ z,z=n1*256+(g 2).toNat:=⟨_,rfl⟩
 obtain⟨n3,hn3⟩:∃ z,z=n2*256+(g 3).toNat:=⟨_,rfl⟩
 obtain⟨n4,hn4⟩:∃ z,z=n3*256+(g 4).toNat:=⟨_,rfl⟩
 obtain⟨n5,hn5⟩:∃ z,z=n4*256+(g 5).toNat:=⟨_,rfl⟩
 obtain⟨n6,hn6⟩:∃ z,z=n5*256+(g 6).toNat:=⟨_,rfl⟩
 obtain⟨n7,hn7⟩:∃ z,z=n6*256+(g 7).toNat:=⟨_,rfl⟩
 refine QF (w8 (BitVec.ofNat 8 ((g 0).toNat % 128))) (KV (g 0)) ?_
 refine QF (.int .i64 (n0:Int)) (show fF .i64 (w8 (BitVec.ofNat 8 ((g 0).toNat % 128)))=some (.int .i64 (n0:Int)) from by rw [dz,GO,hn0]) ?_
 refine QF (.int .i64 (n0:Int)) (or_zero n0 ab) ?_
 refine QF (.int .i64 ((n0*256:Nat):Int)) (iG n0 ab) ?_
 refine QF (.int .i64 ((g 1).toNat:Int)) (dz (g 1)) ?_
 refine QF (.int .i64 (n1:Int)) (show aZ .or (.int .i64 ((n0*256:Nat):Int)) (.int .i64 ((g 1).toNat:Int))=some (.int .i64 (n1:Int)) from by rw [mM n0 (g 1).toNat ab ab,hn1]) ?_
 refine QF (.int .i64 ((n1*256:Nat):Int)) (iG n1 ab) ?_
 refine QF (.int .i64 ((g 2).toNat:Int)) (dz (g 2)) ?_
 refine QF (.int .i64 (n2:Int)) (show aZ .or (.int .i64 ((n1*256:Nat):Int)) (.int .i64 ((g 2).toNat:Int))=some (.int .i64 (n2:Int)) from by rw [mM n1 (g 2).toNat ab ab,hn2]) ?_
 refine QF (.int .i64 ((n2*256:Nat):Int)) (iG n2 ab) ?_
 refine QF (.int .i64 ((g 3).toNat:Int)) (dz (g 3)) ?_
 refine QF (.int .i64 (n3:Int)) (show aZ .or (.int .i64 ((n2*256:Nat):Int)) (.int .i64 ((g 3).toNat:Int))=some (.int .i64 (n3:Int)) from by rw [mM n2 (g 3).toNat ab ab,hn3]) ?_
 refine QF (.int .i64 ((n3*256:Nat):Int)) (iG n3 ab) ?_
 refine QF (.int .i64 ((g 4).toNat:Int)) (dz (g 4)) ?_
 refine QF (.int .i64 (n4:Int)) (show aZ .or (.int .i64 ((n3*256:Nat):Int)) (.int .i64 ((g 4).toNat:Int))=some (.int .i64 (n4:Int)) from by rw [mM n3 (g 4).toNat ab ab,hn4]) ?_
 refine QF (.int .i64 ((n4*256:Nat):Int)) (iG n4 ab) ?_
 refine QF (.int .i64 ((g 5).toNat:Int)) (dz (g 5)) ?_
 refine QF (.int .i64 (n5:Int)) (show aZ .or (.int .i64 ((n4*256:Nat):Int)) (.int .i64 ((g 5).toNat:Int))=some (.int .i64 (n5:Int)) from by rw [mM n4 (g 5).toNat ab ab,hn5]) ?_
 refine QF (.int .i64 ((n5*256:Nat):Int)) (iG n5 ab) ?_
 refine QF (.int .i64 ((g 6).toNat:Int)) (dz (g 6)) ?_
 refine QF (.int .i64 (n6:Int)) (show aZ .or (.int .i64 ((n5*256:Nat):Int)) (.int .i64 ((g 6).toNat:Int))=some (.int .i64 (n6:Int)) from by rw [mM n5 (g 6).toNat ab ab,hn6]) ?_
 refine QF (.int .i64 ((n6*256:Nat):Int)) (iG n6 ab) ?_
 refine QF (.int .i64 ((g 7).toNat:Int)) (dz (g 7)) ?_
 refine QF (.int .i64 (n7:Int)) (show aZ .or (.int .i64 ((n6*256:Nat):Int)) (.int .i64 ((g 7).toNat:Int))=some (.int .i64 (n7:Int)) from by rw [mM n6 (g 7).toNat ab ab,hn7]) ?_
 refine QF (.int .i64 ((n7 % 1073741789:Nat):Int)) (NN n7) ?_
 have hN:nz (kg (sb s) l)=n7 % 1073741789:=by rw [hg];subst hn7 hn6 hn5 hn4 hn3 hn2 hn1 hn0;rfl
 exact aK fun α W _ _ hS=>ji (x:=.int .i64 ((n7 % 1073741789:Nat):Int)) hS aa (by rw [hN])
def Kn(K:QV)(f:FuncId)(xs:List SX.Arg)(v:Value):Prop:=f=45∧bn K∧∃ (s:ByteArray) (u:Value) (l:List W8),xs=[⟨.string s,0,[]⟩,⟨u,1,l.flatMap c8⟩]∧s.size<2 ^ 60∧l.length<2 ^ 44∧v=.int .i64 (nz (kg (sb s) l):Int)
theorem xY{K:QV}{f:FuncId}{xs:List SX.Arg}{v:Value}{W:World}(h:Kn K f xs v)(hrd:∀ x∈xs,x.rd W)(hK:∀ s sz cells,K s sz cells→SX.Arg.rd W ⟨s,sz,cells⟩):Calls Tryz.prog f (xs.map SX.Arg.v).toArray W fun e w'=>e=.returned v∧Below W.heap.size W w':=by
 obtain⟨rfl,hL,s,u,l,rfl,h60,h44,rfl⟩:=h
 obtain⟨A,n,c,rfl,hr,hc,hn⟩:=cT (hrd ⟨u,1,l.flatMap c8⟩ ai)
 exact Gf s l h60 h44 A n c W hr hc (bF hL hK)
end Go.Proofs.YtidekfgkpindbaaGreatDoor
namespace Go.Proofs.YtidekfgkpindbaaGreatDoor.Jac
def c7(f:Nat→Nat):Nat→Nat
 | 0=>0
 | h+1=>c7 f h+f (h+1)
theorem di{f g:Nat→Nat}:∀ h,(∀ k,1≤k→k≤h→f k=g k)→c7 f h=c7 g h
 | 0,_=>rfl
 | h+1,H=>by
  simp only [c7]
  rw [di h (fun k a b=>H k a ab),H (h+1) ab ab]
theorem gC(f g:Nat→Nat):∀ h,c7 (fun k=>f k+g k) h=c7 f h+c7 g h
 | 0=>rfl
 | h+1=>by simp only [c7,gC f g h];omega
theorem fq(c:Nat):∀ h,c7 (fun _=>c) h=c*h
 | 0=>rfl
 | h+1=>by simp only [c7,fq c h];rw [Nat.mul_succ]
theorem tY(f:Nat→Nat→Nat)(g:Nat):∀ h,c7 (fun k=>c7 (fun j=>f k j) g) h=c7 (fun j=>c7 (fun k=>f k j) h) g
 | 0=>by simp only [c7];rw [fq];omega
 | h+1=>by simp only [c7];rw [tY f g h,← gC]
theorem kM{f g:Nat→Nat}:∀ h,(∀ k,1≤k→k≤h→f k % 2=g k % 2)→c7 f h % 2=c7 g h % 2
 | 0,_=>rfl
 | h+1,H=>by
  simp only [c7]
  have a:=kM h (fun k a b=>H k a ab)
  have b:=H (h+1) ab ab
  omega
theorem vI(f:Nat→Nat):∀ h,c7 f h=((List.range' 1 h).map f).sum
 | 0=>rfl
 | h+1=>by rw [List.range'_concat];simp [c7,vI f h,Nat.add_comm]
theorem vJ(q:Nat):∀ g,q≤g→c7 (fun j=>if j≤q then 1 else 0) g=q
 | 0,h=>by simp only [c7];omega
 | g+1,h=>by
  simp only [c7]
  by_cases e:q=g+1
  ·subst e
   rw [di (g:=fun _=>1) g (fun k _ b=>if_pos ab),fq,if_pos (Nat.le_refl _)];omega
  rw [vJ q g ab,if_neg ab,Nat.add_zero]
theorem ry{l₁:List Nat}:∀ {l₂:List Nat},l₁.Nodup→(∀ x,x∈l₁→x∈l₂)→l₂.length≤l₁.length→l₁.Perm l₂:=by
 induction l₁ with
 | nil=>intro l₂ _ _ h;have:l₂=[]:=List.length_eq_zero_iff.1 (Nat.le_zero.1 h);subst this;exact List.Perm.refl _
 | cons a t ih =>
  intro l₂ hn hs hl
  rw [List.nodup_cons]at hn
  have ha:=hs a (List.mem_cons_self ..)
  have hp:=List.perm_cons_erase ha
  refine List.Perm.trans ?_ hp.symm
  refine List.Perm.cons a (ih hn.2 ?_ ?_)
  ·intro x hx
   refine(List.mem_erase_of_ne ?_).2 (hs x (List.mem_cons_of_mem _ hx))
   intro e;subst e;exact hn.1 hx
  rw [List.length_erase_of_mem ha];simp only [List.length_cons]at hl;omega
theorem yy{f:Nat→Nat}{h:Nat}(hin:∀ k,1≤k→k≤h→1≤f k∧f k≤h)
 (hinj:∀ k j,1≤k→k≤h→1≤j→j≤h→f k=f j→k=j):((List.range' 1 h).map f).Perm (List.range' 1 h):=by
 refine ry ?_ ?_ ai
 ·rw [List.Nodup,List.pairwise_map]
  refine List.Pairwise.imp_of_mem ?_ (List.nodup_range' (s:=1) (n:=h) 1)
  intro a b ha hb hne e
  simp only [List.mem_range'_1]at ha hb
  exact hne (hinj a b ha.1 ab hb.1 ab e)
 intro x hx
 obtain⟨k,hk,rfl⟩:=List.mem_map.1 hx
 simp only [List.mem_range'_1]at hk ⊢
 have:=hin k hk.1 ab
 omega
theorem DJ{f:Nat→Nat}{h:Nat}(hin:∀ k,1≤k→k≤h→1≤f k∧f k≤h)
 (hinj:∀ k j,1≤k→k≤h→1≤j→j≤h→f k=f j→k=j) (g:Nat→Nat):c7 (fun k=>g (f k)) h=c7 g h:=by
 rw [vI,vI]
 have:=((yy hin hinj).map g).sum_nat
 rw [List.map_map]at this
 exact this
def fl(h a k:Nat):Nat:=if a*k % (2*h+1)≤h then a*k % (2*h+1)else 2*h+1-a*k % (2*h+1)
def BP(h a k:Nat):Nat:=if a*k % (2*h+1)≤h then 0 else 1
def mu(h a:Nat):Nat:=c7 (BP h a) h
theorem jq{h a k:Nat}(hc:Nat.Coprime a (2*h+1))(hk:k<2*h+1)(hd:(2*h+1)∣a*k):k=0 :=
 Nat.eq_zero_of_dvd_of_lt (Nat.Coprime.dvd_of_dvd_mul_left hc.symm hd) hk
theorem qg{h a k:Nat}(hc:Nat.Coprime a (2*h+1))(h1:1≤k)(hk:k<2*h+1):1≤a*k % (2*h+1):=by
 rcases Nat.eq_zero_or_pos (a*k % (2*h+1))with e|e
 ·have:=jq hc hk (Nat.dvd_of_mod_eq_zero e);omega
 exact e
theorem Kt{h a:Nat}(hc:Nat.Coprime a (2*h+1))(k:Nat)(h1:1≤k)(h2:k≤h):1≤fl h a k∧fl h a k≤h:=by
 have a1:=qg hc h1 (by omega:k<2*h+1)
 have a2:=Nat.mod_lt (a*k) (by omega:2*h+1>0)
 unfold fl;split<;>omega
theorem y6{h a k j:Nat}(hc:Nat.Coprime a (2*h+1))(h2:k≤h)(h4:j≤h)
 (e:a*k % (2*h+1)=a*j % (2*h+1)):k=j:=by
 rcases Nat.le_total j k with hl|hl
 ·have d:(2*h+1)∣a*(k-j):=by
   rw [Nat.mul_sub];exact Nat.dvd_of_mod_eq_zero (Nat.sub_mod_eq_zero_of_mod_eq e)
  have:=jq hc ab d;omega
 have d:(2*h+1)∣a*(j-k):=by
  rw [Nat.mul_sub];exact Nat.dvd_of_mod_eq_zero (Nat.sub_mod_eq_zero_of_mod_eq e.symm)
 have:=jq hc ab d;omega
theorem Cl{h a k j:Nat}(hc:Nat.Coprime a (2*h+1))(h1:1≤k)(h2:k≤h)(h4:j≤h)
 (e:a*k % (2*h+1)+a*j % (2*h+1)=2*h+1):False:=by
 have d:(2*h+1)∣a*(k+j):=by
  refine Nat.dvd_of_mod_eq_zero ?_
  rw [Nat.mul_add,Nat.add_mod,e,Nat.mod_self]
 have:=jq hc ab d;omega
theorem Ga{h a:Nat}(hc:Nat.Coprime a (2*h+1))(k j:Nat)(h1:1≤k)(h2:k≤h)(_h3:1≤j)(h4:j≤h)
 (e:fl h a k=fl h a j):k=j:=by
 have a2:=Nat.mod_lt (a*k) (by omega:2*h+1>0)
 have b2:=Nat.mod_lt (a*j) (by omega:2*h+1>0)
 unfold fl at e
 split at e<;>split at e
 ·exact y6 hc h2 h4 e
 ·exact(Cl hc h1 h2 h4 ab).elim
 ·exact(Cl hc h1 h2 h4 ab).elim
 exact y6 hc h2 h4 ab
theorem Gb{h a:Nat}(hc:Nat.Coprime a (2*h+1))(g:Nat→Nat):c7 (fun k=>g (fl h a k)) h=c7 g h :=
 DJ (Kt hc) (Ga hc) g
theorem ym{h a:Nat}(hc:Nat.Coprime a (2*h+1))(ho:a % 2=1) :
 mu h a % 2=c7 (fun k=>a*k / (2*h+1)) h % 2:=by
 have e:c7 (fun k=>k) h % 2=c7 (fun k=>(a*k / (2*h+1)+fl h a k)+BP h a k) h % 2:=by
  refine kM h (fun k _ _=>?_)
  have hd:=Nat.div_add_mod (a*k) (2*h+1)
  have hm:=Nat.mod_lt (a*k) (by omega:2*h+1>0)
  have h1:a*k % 2=k % 2:=by rw [Nat.mul_mod,ho];omega
  have h2:(2*h+1)*(a*k / (2*h+1)) % 2=a*k / (2*h+1) % 2:=by
   rw [Nat.mul_mod,show(2*h+1) % 2=1 by omega];omega
  unfold fl BP
  split<;>omega
 rw [gC,gC,Gb hc (fun k=>k)]at e
 unfold mu
 omega
theorem Jy{h g:Nat}(hc:Nat.Coprime (2*g+1) (2*h+1)) :
 c7 (fun k=>(2*g+1)*k / (2*h+1)) h+c7 (fun j=>(2*h+1)*j / (2*g+1)) g=g*h:=by
 have count:∀ (p q:Nat) (k:Nat),k≤p→(2*q+1)*k / (2*p+1)=c7 (fun j=>if(2*p+1)*j≤(2*q+1)*k then 1 else 0) q:=by
  intro p q k hk
  have hq:(2*q+1)*k / (2*p+1)≤q:=by
   have:(2*q+1)*k<(q+1)*(2*p+1):=by
    have:(2*q+1)*k≤(2*q+1)*p:=Nat.mul_le_mul_left _ hk
    have e1:(2*q+1)*p=2*(q*p)+p:=by rw [Nat.add_mul,Nat.mul_assoc];omega
    have e2:(q+1)*(2*p+1)=2*(q*p)+q+2*p+1:=by
     rw [Nat.add_mul,Nat.mul_add,Nat.mul_left_comm];omega
    omega
   have:=(Nat.div_lt_iff_lt_mul (by omega:0<2*p+1)).2 this
   omega
  rw [← vJ _ q hq]
  refine di q (fun j _ _=>?_)
  have:(j≤(2*q+1)*k / (2*p+1))=((2*p+1)*j≤(2*q+1)*k):=by
   rw [Nat.le_div_iff_mul_le ab,Nat.mul_comm j]
  simp only [this]
 have e1:c7 (fun k=>(2*g+1)*k / (2*h+1)) h=c7 (fun k=>c7 (fun j=>if(2*h+1)*j≤(2*g+1)*k then 1 else 0) g) h :=
  di h (fun k _ hk=>count h g k hk)
 have e2:c7 (fun j=>(2*h+1)*j / (2*g+1)) g=c7 (fun k=>c7 (fun j=>if(2*g+1)*k≤(2*h+1)*j then 1 else 0) g) h:=by
  rw [tY]
  exact di g (fun j _ hj=>count g h j hj)
 rw [e1,e2,← gC]
 rw [di (g:=fun _=>g) h,fq]
 intro k hk1 hk2
 rw [← gC,di (g:=fun _=>1) g,fq]
 ·omega
 intro j hj1 hj2
 have hne:(2*h+1)*j≠(2*g+1)*k:=by
  intro e
  have:=jq hc (by omega:k<2*h+1) ⟨j,e.symm⟩
  omega
 rcases Nat.lt_or_gt_of_ne hne with hl|hl
 ·rw [if_pos (Nat.le_of_lt hl),if_neg ab]
 rw [if_neg ab,if_pos (Nat.le_of_lt hl)]
theorem yG{h g:Nat}(hc:Nat.Coprime (2*g+1) (2*h+1)):(mu h (2*g+1)+mu g (2*h+1)) % 2=g*h % 2:=by
 have a:=ym hc ab
 have b:=ym hc.symm ab
 have c:=Jy hc
 omega
theorem GH(h a:Nat):mu h (a % (2*h+1))=mu h a:=by
 unfold mu
 refine di h (fun k _ _=>?_)
 unfold BP
 rw [Nat.mod_mul_mod]
theorem LI(h:Nat):mu h 1=0:=by
 unfold mu
 rw [di (g:=fun _=>0) h,fq]
 ·omega
 intro k _ hk
 unfold BP
 rw [Nat.one_mul,Nat.mod_eq_of_lt ab,if_pos hk]
theorem Dn(h q:Nat):q≤h→c7 (fun k=>if k≤q then 0 else 1) h=h-q:=by
 intro hq
 have e:c7 (fun k=>if k≤q then 0 else 1) h+c7 (fun k=>if k≤q then 1 else 0) h=h:=by
  rw [← gC,di (g:=fun _=>1) h,fq]
  ·omega
  intro k _ _;split<;>rfl
 rw [vJ q h hq]at e
 omega
theorem LJ(h:Nat):mu h 2=h-h / 2:=by
 unfold mu
 rw [← Dn h (h / 2) ab]
 refine di h (fun k _ hk=>?_)
 unfold BP
 rw [Nat.mod_eq_of_lt ab]
 by_cases e:k≤h / 2
 ·rw [if_pos ab,if_pos e]
 rw [if_neg ab,if_neg e]
theorem GI{h a b:Nat}(ha:Nat.Coprime a (2*h+1))(hb:Nat.Coprime b (2*h+1)):mu h (a*b) % 2=(mu h a+mu h b) % 2:=by
 have e:c7 (BP h (a*b)) h % 2=c7 (fun k=>BP h a (fl h b k)+BP h b k) h % 2:=by
  refine kM h (fun k h1 h2=>?_)
  have hr1:=qg hb h1 (by omega:k<2*h+1)
  have hr2:=Nat.mod_lt (b*k) (by omega:2*h+1>0)
  have ek:a*b*k % (2*h+1)=a*(b*k % (2*h+1)) % (2*h+1):=by
   rw [Nat.mul_assoc,Nat.mul_mod_mod]
  have hs1:=qg ha hr1 hr2
  have hs2:=Nat.mod_lt (a*(b*k % (2*h+1))) (by omega:2*h+1>0)
  unfold BP fl
  rw [ek]
  by_cases c:b*k % (2*h+1)≤h
  ·rw [if_pos c,if_pos c];rfl
  rw [if_neg c,if_neg c]
  have en:a*(2*h+1-b*k % (2*h+1)) % (2*h+1)=2*h+1-a*(b*k % (2*h+1)) % (2*h+1):=by
   have s:(a*(2*h+1-b*k % (2*h+1)) % (2*h+1)+a*(b*k % (2*h+1)) % (2*h+1)) % (2*h+1)=0:=by
    rw [← Nat.add_mod,← Nat.mul_add,Nat.sub_add_cancel ab,Nat.mul_mod_left]
   have t:=Nat.mod_lt (a*(2*h+1-b*k % (2*h+1))) (by omega:2*h+1>0)
   generalize a*(2*h+1-b*k % (2*h+1)) % (2*h+1)=u at s t ⊢
   generalize a*(b*k % (2*h+1)) % (2*h+1)=v at s hs1 hs2 ⊢
   obtain⟨q,hq⟩:=Nat.dvd_of_mod_eq_zero s
   have:q=1:=by
    rcases q with _|_|q
    ·omega
    ·rfl
    rw [Nat.mul_add,Nat.mul_add]at hq;omega
   subst this
   omega
  rw [en]
  split<;>split<;>omega
 unfold mu
 rw [e,gC,Gb hb (BP h a)]
theorem gw{n x x' y y':Nat}(h1:x % n=x' % n)(h2:y % n=y' % n):x*y % n=x'*y' % n:=by
 rw [Nat.mul_mod,h1,h2,← Nat.mul_mod]
def Lv:Nat→Nat
 | 0=>1
 | h+1=>Lv h*(h+1)
def kL(f:Nat→Nat):Nat→Nat
 | 0=>1
 | h+1=>kL f h*f (h+1)
theorem qW(f:Nat→Nat):∀ h,kL f h=((List.range' 1 h).map f).prod
 | 0=>rfl
 | h+1=>by rw [List.range'_concat];simp [kL,qW f h,Nat.add_comm]
theorem F7:∀ h,Lv h=kL (fun k=>k) h
 | 0=>rfl
 | h+1=>by simp only [Lv,kL,F7 h]
theorem Gp{h a:Nat}(hc:Nat.Coprime a (2*h+1)):kL (fl h a) h=Lv h:=by
 rw [F7,qW,qW]
 have:=(yy (Kt hc) (Ga hc)).prod_nat
 simpa using this
theorem ph(a:Nat):∀ h,kL (fun k=>a*k) h=a ^ h*Lv h
 | 0=>rfl
 | h+1=>by
  simp only [kL,Lv,ph a h]
  rw [Nat.pow_succ,Nat.mul_mul_mul_comm]
theorem qQ{h a:Nat}:∀ m,kL (fun k=>a*k) m % (2*h+1)=(2*h) ^ c7 (BP h a) m*kL (fl h a) m % (2*h+1)
 | 0=>rfl
 | m+1=>by
  have e:a*(m+1) % (2*h+1)=(2*h) ^ BP h a (m+1)*fl h a (m+1) % (2*h+1):=by
   unfold BP fl
   have hm:=Nat.mod_lt (a*(m+1)) (by omega:2*h+1>0)
   split
   ·rw [Nat.pow_zero,Nat.one_mul,Nat.mod_mod]
   rw [Nat.pow_one]
   generalize a*(m+1) % (2*h+1)=r at hm ⊢
   obtain⟨s,hs⟩:∃ s,2*h+1=s+r:=⟨2*h+1-r,ab⟩
   have:2*h*(2*h+1-r)=r+(2*h+1)*(2*h-r):=by
    obtain⟨t,ht⟩:∃ t,2*h=t+r:=⟨2*h-r,ab⟩
    rw [show 2*h+1-r=t+1 by omega,show 2*h-r=t by omega,ht]
    rw [Nat.mul_add,Nat.add_mul (t+r) 1];omega
   rw [this,Nat.add_mul_mod_self_left,Nat.mod_eq_of_lt hm]
  simp only [kL,c7]
  rw [gw (qQ (h:=h) (a:=a) m) e,Nat.pow_add]
  rw [Nat.mul_mul_mul_comm]
theorem o6{n:Nat}:∀ h,(∀ k,1≤k→k≤h→Nat.Coprime k n)→Nat.Coprime (Lv h) n
 | 0,_=>Nat.coprime_one_left _
 | h+1,H=>Nat.Coprime.mul_left (o6 h (fun k a b=>H k a ab)) (H (h+1) ab ab)
theorem cancel{n c x y:Nat}(hc:Nat.Coprime c n)(e:x*c % n=y*c % n):x % n=y % n:=by
 rcases Nat.le_total y x with hl|hl
 ·have d:n∣(x-y)*c:=by
   rw [Nat.sub_mul];exact Nat.dvd_of_mod_eq_zero (Nat.sub_mod_eq_zero_of_mod_eq e)
  obtain⟨q,hq⟩:=Nat.Coprime.dvd_of_dvd_mul_right hc.symm d
  rw [show x=y+n*q by omega,Nat.add_mul_mod_self_left]
 have d:n∣(y-x)*c:=by
  rw [Nat.sub_mul];exact Nat.dvd_of_mod_eq_zero (Nat.sub_mod_eq_zero_of_mod_eq e.symm)
 obtain⟨q,hq⟩:=Nat.Coprime.dvd_of_dvd_mul_right hc.symm d
 rw [show y=x+n*q by omega,Nat.add_mul_mod_self_left]
theorem neg_pow(h:Nat):∀ m,(2*h) ^ m % (2*h+1)=(if m % 2=0 then 1 else 2*h) % (2*h+1)
 | 0=>rfl
 | m+1=>by
  rw [Nat.pow_succ,gw (neg_pow h m) rfl]
  by_cases e:m % 2=0
  ·rw [if_pos e,if_neg ab,Nat.one_mul]
  rw [if_neg e,if_pos ab]
  rcases h with _|h
  ·rfl
  have:2*(h+1)*(2*(h+1))=1+(2*(h+1)+1)*(2*h+1):=by
   rw [show 2*(h+1)=2*h+1+1 by omega]
   generalize 2*h+1=t
   rw [Nat.add_mul,Nat.mul_add,Nat.add_mul (t+1) 1 t,Nat.add_mul t 1 t];omega
  rw [this,Nat.add_mul_mod_self_left]
theorem Np{h a:Nat}(hp:∀ k,1≤k→k≤h→Nat.Coprime k (2*h+1))(hc:Nat.Coprime a (2*h+1)) :
 a ^ h % (2*h+1)=(if mu h a % 2=0 then 1 else 2*h) % (2*h+1):=by
 rw [← neg_pow]
 refine cancel (o6 h hp) ?_
 rw [← ph,qQ h,Gp hc,mu]
def CS:Nat→Nat→Bool
 | 0,lo=>2147483579 % lo != 0
 | k+1,lo=>CS k lo && CS k (lo+2 ^ k)
theorem qv:∀ k lo,CS k lo=true→∀ d,lo≤d→d<lo+2 ^ k→2147483579 % d≠0
 | 0,lo,h,d,h1,h2=>by
  have:d=lo:=by simp only [Nat.pow_zero]at h2;omega
  subst this
  simpa [CS]using h
 | k+1,lo,h,d,h1,h2=>by
  simp only [CS,Bool.and_eq_true]at h
  rw [Nat.pow_succ]at h2
  by_cases c:d<lo+2 ^ k
  ·exact qv k lo h.1 d h1 c
  exact qv k (lo+2 ^ k) h.2 d ab ab
theorem Om:CS 16 2=true:=by decide +kernel
theorem ej{k:Nat}(h1:1≤k)(h2:k<2147483579):Nat.Coprime k 2147483579:=by
 have hgd:Nat.gcd k 2147483579∣2147483579:=Nat.gcd_dvd_right _ _
 have hgk:Nat.gcd k 2147483579≤k:=Nat.le_of_dvd ab (Nat.gcd_dvd_left _ _)
 have hg0:0<Nat.gcd k 2147483579:=Nat.gcd_pos_of_pos_left _ ab
 unfold Nat.Coprime
 generalize Nat.gcd k 2147483579=g at hgd hgk hg0 ⊢
 rcases Nat.lt_or_ge 1 g with hg|hg
 ·exfalso
  obtain⟨c,hc⟩:=hgd
  have T:=qv 16 2 Om
  have hc1:1<c:=by
   rcases c with _|_|c
   ·omega
   ·omega
   omega
  by_cases hs:g<65538
  ·exact T g ab ab (by rw [hc];exact Nat.mul_mod_right ..)
  by_cases ht:c<65538
  ·exact T c ab ab (by rw [hc];exact Nat.mul_mod_left ..)
  have:65538*65538≤g*c:=Nat.mul_le_mul ab ab
  omega
 omega
end Go.Proofs.YtidekfgkpindbaaGreatDoor.Jac
namespace Go.Proofs.YtidekfgkpindbaaGreatDoor.Jac
def Inv(x a m:Nat)(q:Bool):Prop :=
 1≤a∧a≤x∧x<2147483579∧m≤2147483579∧∃ h,m=2*h+1∧Nat.Coprime a m∧((q=true↔mu h a % 2=0)↔mu 1073741789 x % 2=0)
theorem DI{x:Nat}(h1:1≤x)(h2:x<2147483579):Inv x x 2147483579 true :=
 ⟨h1,Nat.le_refl _,h2,Nat.le_refl _,1073741789,rfl,ej h1 h2,ai⟩
theorem nc{a m:Nat}(he:a % 2=0)(hc:Nat.Coprime a m):Nat.Coprime (a / 2) m :=
 Nat.Coprime.coprime_dvd_left (Nat.div_dvd_of_dvd (Nat.dvd_of_mod_eq_zero he)) hc
theorem xJ(h:Nat):Nat.Coprime 2 (2*h+1):=by
 unfold Nat.Coprime
 rw [Nat.gcd_rec,show(2*h+1) % 2=1 by omega]
 rfl
theorem qV{x a m:Nat}{q:Bool}(hi:Inv x a m q)(he:a % 2=0)(r:Bool)
 (hr:r=if m % 8=3∨m % 8=5 then !q else q):Inv x (a / 2) m r:=by
 obtain⟨h1,h2,hx,h3,h,rfl,hc,hq⟩:=hi
 refine⟨ab,ab,hx,h3,h,rfl,nc he hc,?_⟩
 have hm:=GI (xJ h) (nc he hc)
 rw [show 2*(a / 2)=a by omega,LJ]at hm
 rw [← hq]
 subst hr
 by_cases c:(2*h+1) % 8=3∨(2*h+1) % 8=5
 ·rw [if_pos c]
  have:(h-h / 2) % 2=1:=ab
  cases q<;>simp<;>omega
 rw [if_neg c]
 have:(h-h / 2) % 2=0:=ab
 cases q<;>simp<;>omega
theorem vH{x a m:Nat}{q:Bool}(hi:Inv x a m q)(he:a % 2=1)(h1':a≠1)(r:Bool)
 (hr:r=if a % 4=3∧m % 4=3 then !q else q):Inv x (m % a) a r:=by
 obtain⟨h1,h2,hx,h3,h,rfl,hc,hq⟩:=hi
 obtain⟨g,rfl⟩:∃ g,a=2*g+1:=⟨a / 2,ab⟩
 have hlt:=Nat.mod_lt (2*h+1) (by omega:2*g+1>0)
 have hc':Nat.Coprime ((2*h+1) % (2*g+1)) (2*g+1):=by
  unfold Nat.Coprime at hc ⊢
  rw [Nat.gcd_rec]at hc
  exact hc
 refine⟨?_,ab,hx,ab,g,rfl,hc',?_⟩
 ·rcases Nat.eq_zero_or_pos ((2*h+1) % (2*g+1))with e|e
  ·rw [e]at hc'
   have:2*g+1=1:=by simpa [Nat.Coprime]using hc'
   omega
  exact e
 have hre:=yG hc
 have hgh:g*h % 2=if(2*g+1) % 4=3∧(2*h+1) % 4=3 then 1 else 0:=by
  rw [Nat.mul_mod]
  rcases Nat.mod_two_eq_zero_or_one g with a|a<;>rcases Nat.mod_two_eq_zero_or_one h with b|b<;>rw [a,b]
  ·rw [if_neg ab]
  ·rw [if_neg ab]
  ·rw [if_neg ab]
  rw [if_pos ab]
 rw [GH,← hq]
 subst hr
 by_cases c:(2*g+1) % 4=3∧(2*h+1) % 4=3
 ·rw [if_pos c]at hgh ⊢
  cases q<;>simp<;>omega
 rw [if_neg c]at hgh ⊢
 cases q<;>simp<;>omega
def fi(x:Int):Bool:=decide (1≤x) && decide (x<2147483579) && decide (mu 1073741789 x.toNat % 2=0)
theorem B8{x m:Nat}{q:Bool}(hi:Inv x 1 m q):q=fi x:=by
 obtain⟨h1,h2,hx,h3,h,rfl,hc,hq⟩:=hi
 rw [LI]at hq
 unfold fi
 rw [Int.toNat_natCast,decide_eq_true (by omega:(1:Int)≤(x:Int)),decide_eq_true (by omega:(x:Int)<2147483579)]
 simp only [Bool.true_and]
 cases q
 ·rw [eq_comm,decide_eq_false_iff_not];simpa using hq
 rw [eq_comm,decide_eq_true_iff];simpa using hq
theorem wT{x:Int}(h:¬ (1≤x∧x<2147483579)):fi x=false:=by
 unfold fi
 by_cases h1:1≤x
 ·rw [decide_eq_false (by omega:¬ x<2147483579)];simp
 rw [decide_eq_false h1];simp
def pm(a n:Nat):Nat:=a ^ n % 2147483579
def xi(a n c x m:Nat):Prop:=c<2147483579∧x<2147483579∧c*x ^ m % 2147483579=pm a n
theorem GZ(a n:Nat):pm a n<2147483579:=Nat.mod_lt _ ab
theorem rz{a n:Nat}(h:a<2147483579):xi a n 1 a n:=⟨ab,h,by rw [Nat.one_mul];rfl⟩
theorem sq_pow(x k:Nat):(x*x % 2147483579) ^ k % 2147483579=x ^ (2*k) % 2147483579:=by
 rw [← Nat.pow_mod,Nat.pow_mul,Nat.pow_two]
theorem yA{a n c x m:Nat}(h:xi a n c x m)(ho:m % 2=1):xi a n (c*x % 2147483579) (x*x % 2147483579) (m / 2):=by
 refine⟨Nat.mod_lt _ ab,Nat.mod_lt _ ab,?_⟩
 rw [← h.2.2,gw (Nat.mod_mod _ _) (sq_pow x (m / 2))]
 have e:x ^ m=x*x ^ (2*(m / 2)):=by
  rw [Nat.mul_comm,← Nat.pow_succ];congr 1;omega
 rw [e,Nat.mul_assoc]
theorem ul{a n c x m:Nat}(h:xi a n c x m)(ho:m % 2=0):xi a n c (x*x % 2147483579) (m / 2):=by
 refine⟨h.1,Nat.mod_lt _ ab,?_⟩
 rw [← h.2.2,gw rfl (sq_pow x (m / 2)),show 2*(m / 2)=m by omega]
theorem yz{a n c x:Nat}(h:xi a n c x 0):c=pm a n:=by
 have:=h.2.2
 rwa [Nat.pow_zero,Nat.mul_one,Nat.mod_eq_of_lt h.1]at this
theorem Mi{x:Nat}(h1:1≤x)(h2:x<2147483579):pm x 1073741789=if mu 1073741789 x % 2=0 then 1 else 2147483578:=by
 obtain⟨h,hh⟩:∃ h:Nat,h=1073741789:=⟨_,rfl⟩
 have e:2*h+1=2147483579:=ab
 have hg:=Np (h:=h) (a:=x) (fun k a b=>by rw [e];exact ej a ab) (by rw [e];exact ej h1 h2)
 rw [e]at hg
 rw [← hh]
 unfold pm
 rw [hg]
 split
 ·rfl
 rw [Nat.mod_eq_of_lt ab];omega
theorem wR{x:Nat}(h1:1≤x)(h2:x<2147483579):fi x=decide (pm x 1073741789=1):=by
 rw [Mi h1 h2]
 unfold fi
 rw [Int.toNat_natCast,decide_eq_true (by omega:(1:Int)≤(x:Int)),decide_eq_true (by omega:(x:Int)<2147483579)]
 simp only [Bool.true_and]
 by_cases h:mu 1073741789 x % 2=0
 ·rw [if_pos h,decide_eq_true h];rfl
 rw [if_neg h,decide_eq_false h];rfl
def w7(n:Int):Int:=n % 1073741789
theorem nV(n:Int) : -1073741789<n.tmod 1073741789:=by
 rcases Int.le_total 0 n with h|h
 ·have:=Int.tmod_nonneg 1073741789 h;omega
 rw [show n = -(-n) by omega,Int.neg_tmod]
 have:=Int.tmod_lt_of_pos (-n) (b:=1073741789) ab;omega
theorem AU(n:Int):w7 n=if n.tmod 1073741789<0 then n.tmod 1073741789+1073741789 else n.tmod 1073741789:=by
 have h1:=Int.tmod_lt_of_pos n (b:=1073741789) ab
 have h2:=nV n
 have h3:=Int.mul_tdiv_add_tmod n 1073741789
 unfold w7
 generalize n.tmod 1073741789=r at *
 generalize n.tdiv 1073741789=q at *
 split<;>omega
theorem dX{x:Int}(h:fi x=true):1≤x∧x<2147483579:=by
 by_cases c:1≤x∧x<2147483579
 ·exact c
 rw [wT c]at h;cases h
theorem IB{x:Int}(h1:1≤x)(h2:x<2147483579):fi x=decide (((pm x.toNat (1073741789:Int).toNat:Nat):Int)=1):=by
 have:=wR (x:=x.toNat) ab ab
 rw [Int.toNat_of_nonneg ab]at this
 rw [this,show(1073741789:Int).toNat=1073741789 from rfl]
 congr 1
 exact propext ⟨fun h=>ab,fun h=>ab⟩
def er(a b:Int):Int:=if fi a=true∧fi b=true then a*b % 2147483579 else 0
def gh(a b:Int):Int:=if fi a=true∧fi b=true then 0 else 100
theorem uf(a b:Int):(fi a=false∧er a b=0∧gh a b=100)∨(fi a=true∧fi b=false∧er a b=0∧gh a b=100) ∨
 (fi a=true∧fi b=true∧(0≤a∧a≤2147483578)∧(0≤b∧b≤2147483578)∧(0≤a*b∧a*b≤4611685744765530084)∧er a b=a*b % 2147483579∧gh a b=0):=by
 cases ha:fi a with
 | false=>exact .inl ⟨rfl,by simp [er,ha],by simp [gh,ha]⟩
 | true =>
  cases hb:fi b with
  | false=>exact .inr (.inl ⟨rfl,rfl,by simp [er,ha,hb],by simp [gh,ha,hb]⟩)
  | true =>
   have h1:=dX ha
   have h2:=dX hb
   refine .inr (.inr ⟨rfl,rfl,⟨ab,ab⟩,⟨ab,ab⟩,⟨Int.mul_nonneg ab ab,?_⟩,by simp [er,ha,hb],by simp [gh,ha,hb]⟩)
   have:=Int.mul_le_mul (a:=a) (b:=b) (c:=2147483578) (d:=2147483578) ab ab ab ab
   omega
theorem mP(n:Int):0≤w7 n∧w7 n<1073741789:=by unfold w7;omega
theorem DQ(a:Int):gh a a=if fi a=true then 0 else 100:=by unfold gh;simp
def aN(a n:Int):Int:=if fi a=true then((pm a.toNat (w7 n).toNat:Nat):Int)else 0
theorem oI(a n:Int):(fi a=false∧aN a n=0∧gh a a=100) ∨
 (fi a=true∧0≤a∧a≤2147483578∧aN a n=((pm a.toNat (w7 n).toNat:Nat):Int)∧gh a a=0):=by
 cases ha:fi a with
 | false=>exact .inl ⟨rfl,by simp [aN,ha],by simp [gh,ha]⟩
 | true =>
  have h1:=dX ha
  exact .inr ⟨rfl,ab,ab,by simp [aN,ha],by simp [gh,ha]⟩
def tP(n:Int):Int:=if n<1∨1073741789<n then 0 else if fi n=true then n else 2147483579-n
theorem Em(n:Int):w7 n=(n.tmod 1073741789+1073741789) % 1073741789:=by
 rw [AU]
 have h1:=Int.tmod_lt_of_pos n (b:=1073741789) ab
 have h2:=nV n
 split<;>omega
end Go.Proofs.YtidekfgkpindbaaGreatDoor.Jac
namespace Go.Proofs.YtidekfgkpindbaaGreatDoor
open Go.RowKit
def OT(x0:Nat)(x n s:Value):Prop:=∃ (a m:Nat) (q:Bool),Jac.Inv x0 a m q∧x=.int .i64 a∧n=.int .i64 m∧s=.bool q
def MC(x0 m a1:Nat)(x s:Value):Prop:=∃ (a:Nat) (q:Bool),Jac.Inv x0 a m q∧a≤a1∧x=.int .i64 a∧s=.bool q
theorem iE{a b:Bool}(h:a=b):Ending.returned (.bool a)=.returned (.bool b):=by rw [h]
theorem Fb(x:Int)(w:World)(h:x<1∨2147483579≤x) :
 Calls Tryz.prog 70 #[.int .i64 x] w fun e w'=>e=.returned (.bool (Jac.fi x))∧w=w':=by
 have hv:Hid (Jac.fi x=false):=Lib.hid (Jac.wT ab)
 rcases h with h|h
 ·go_enter Tryz.func70,Tryz.ntmps70
  go_wp2;go_step3
  go_wp2
  rw [Exit.noGoto_ret]
  go_ret
  exact⟨iE hv.out.symm,rfl⟩
 have h':¬ x<1:=ab
 go_enter Tryz.func70,Tryz.ntmps70
 go_wp2;go_step3
 go_wp2
 rw [Exit.noGoto_ret]
 go_ret
 exact⟨iE hv.out.symm,rfl⟩
set_option maxHeartbeats 400000 in
theorem IA(x:Nat)(w:World)(h:1≤x)(h0:x<2147483579) :
 Calls Tryz.prog 70 #[.int .i64 x] w fun e w'=>e=.returned (.bool (Jac.fi x))∧w=w':=by
 go_enter Tryz.func70,Tryz.ntmps70
 go_wp2;go_step3
 go_wp2;go_step3;go_wp2
 go_loop [0,3,4] (fun a b c=>OT x a b c) (fun a _ _=>(intOf a).toNat)
 case atStart=>exact⟨x,2147483579,true,Jac.DI h h0,rfl,rfl,rfl⟩
 case round =>
  obtain⟨a,m,q,hi,rfl,rfl,rfl⟩:=hrel
  have hi1:=hi.1
  have hi2:=hi.2.1
  have hi3:=hi.2.2.2.1
  have HI:=Lib.hid hi
  clear hi
  by_cases hc:1<a
  ·go_wp2
   go_loop [0,4] (fun u v=>MC x m a u v) (fun u _=>(intOf u).toNat)
   case atStart=>exact⟨a,q,HI.out,Nat.le_refl _,rfl,rfl⟩
   case round =>
    obtain⟨b,r,hj,hba,rfl,rfl⟩:=hrel
    have hj1:=hj.1
    have HJ:=Lib.hid hj
    clear hj
    go_wp2
    all_goals simp only [beq_iff_eq,beq_eq_false_iff_ne,ne_eq]at *
    ·exact⟨⟨b / 2,_,Jac.qV HJ.out ab _ (if_pos ab).symm,ab,rfl,rfl⟩,by simp [intOf];omega⟩
    ·exact⟨⟨b / 2,_,Jac.qV HJ.out ab _ (if_pos ab).symm,ab,rfl,rfl⟩,by simp [intOf];omega⟩
    ·exact⟨⟨b / 2,_,Jac.qV HJ.out ab _ (if_neg ab).symm,ab,rfl,rfl⟩,by simp [intOf];omega⟩
    ·obtain rfl:b=1:=ab
     have he:=Jac.B8 HJ.out
     go_ret
     exact⟨iE he,rfl⟩
    ·exact⟨⟨m % b,b,_,Jac.vH HJ.out ab ab _ (if_pos ab).symm,rfl,rfl,rfl⟩,by simp [intOf];have:=Nat.mod_lt m hj1;omega⟩
    ·exact⟨⟨m % b,b,_,Jac.vH HJ.out ab ab _ (if_neg ab).symm,rfl,rfl,rfl⟩,by simp [intOf];have:=Nat.mod_lt m hj1;omega⟩
    exact⟨⟨m % b,b,_,Jac.vH HJ.out ab ab _ (if_neg ab).symm,rfl,rfl,rfl⟩,by simp [intOf];have:=Nat.mod_lt m hj1;omega⟩
  go_wp2
  obtain rfl:a=1:=ab
  have he:=Jac.B8 HI.out
  go_ret
  exact⟨iE he,rfl⟩
theorem l9(x:Int)(w:World) :
 Calls Tryz.prog 70 #[.int .i64 x] w fun e w'=>e=.returned (.bool (Jac.fi x))∧w=w':=by
 by_cases h:x<1∨2147483579≤x
 ·exact Fb x w h
 obtain⟨n,rfl⟩:∃ n:Nat,x=n:=⟨x.toNat,ab⟩
 exact IA n w ab ab
end Go.Proofs.YtidekfgkpindbaaGreatDoor
namespace Go.Proofs.YtidekfgkpindbaaGreatDoor
open Go.RowKit
theorem wx{k:IntKind}{a b:Int}(h:a=b):Ending.returned (.int k a)=.returned (.int k b):=by rw [h]
set_option maxHeartbeats 400000 in
theorem rO{a b c d:Int}(h:a=b)(h':c=d):Ending.returned (.tuple #[.int .i64 a,.int .i64 c])=.returned (.tuple #[.int .i64 b,.int .i64 d]):=by rw [h,h']
theorem JJ(a b:Int)(w:World) :
 Calls Tryz.prog 71 #[.int .i64 a,.int .i64 b] w fun e w'=>e=.returned (.tuple #[.int .i64 (Jac.er a b),.int .i64 (Jac.gh a b)])∧w=w':=by
 rcases Jac.uf a b with ⟨ha,hm⟩|⟨ha,hb,hm⟩|⟨ha,hb,ba,bb,bm,hm⟩
 all_goals
  have HM:=Lib.hid hm
  clear hm
  try (have ba1:=ba.1;have ba2:=ba.2;have bb1:=bb.1;have bb2:=bb.2)
  go_enter Tryz.func71,Tryz.ntmps71
  go_wp2_with (go_at_call 70;refine(l9 _ _).mono ?_;rintro e w' ⟨rfl,rfl⟩)
  go_ret2
  exact⟨rO HM.out.1.symm HM.out.2.symm,rfl⟩
end Go.Proofs.YtidekfgkpindbaaGreatDoor
namespace Go.Proofs.YtidekfgkpindbaaGreatDoor
open Go.RowKit
theorem DL(x:Int)(b:Nat)(w:World)(hc:w.cell? ⟨b,0,none⟩=some (.int .i64 x)) :
 Calls Tryz.prog 115 #[.slice (some ⟨b,0,none⟩) 1 1] w fun e w'=>e=.returned (.int .i64 (Jac.w7 x))∧w=w':=by
 have h1:=Int.tmod_lt_of_pos x (b:=1073741789) ab
 have h2:=Jac.nV x
 have HR:=Lib.hid (Jac.Em x)
 have hr:=Jac.mP x
 have hr1:=hr.1
 have hr2:=hr.2
 clear hr
 go_enter Tryz.func115,Tryz.ntmps115
 go_wp2
 go_loop [3,8] (fun m i=>(m=.int .i64 1∧i=.int .i64 0)∨(m=.int .i64 (Jac.w7 x)∧i=.int .i64 1)) (fun _ i=>1-(intOf i).toNat)
 case atStart=>exact .inl ⟨rfl,rfl⟩
 case round =>
  rcases hrel with ⟨rfl,rfl⟩|⟨rfl,rfl⟩
  ·go_wp2
   go_round
   case rel=>exact .inr ⟨by rw [HR.out],rfl⟩
   case measure=>simp [intOf]
  go_wp2
  go_ret
  exact⟨rfl,rfl⟩
variable {F:Fence}{n:Nat}{P:Program}
structure LP where
 fn:FuncId
 tmps:Array Value
 ps:Array Tmp
 assign:Code
 body:Code
 D:Nat
def LP.obj(L:LP)(st:LoopState)(pe:Option Code):Obj :=
 .loop { state:=st,pending:=pe,fn:=L.fn,tmps:=L.tmps,params:=L.ps,assign:=L.assign,body:=L.body,defers:=L.D }
def Kx(D:Nat)(a:Act):Act:={ a with defers:={ target:=.collected D,args:=#[] }::a.defers }
def Gw(F:Fence)(n:Nat)(P:Program)(Q:Exit→Act→World→Prop)(a:Act)(W:World):Option Code→Prop
 | none=>Q .normal a W
 | some c=>c.wpIn F n P Q a W
def LP.ends(L:LP)(F:Fence)(n:Nat)(P:Program)(Q:Exit→Act→World→Prop)(a:Act)(l:Nat)(e:Ending)(W:World):Prop :=
 ∃ v st jump,e=.returned v∧st≠.busy∧W.heap[l]?=some (L.obj st jump)∧Gw F n P Q a (W.putObj l (L.obj .exhausted jump)) jump
theorem mi{g:Operand}{ps:Array Tmp}{assign body:Code}{Q:Exit→Act→World→Prop}{a:Act}{w:World}
 (hro:F.round=none) (h1:1≤n) {gf:Nat} {lb:Array Value} (hg:a.eval g=.func (.func gf) #[] lb) (hFg:F.fn gf) (eg:∀ args w,(callFunc gf args).run P w=.ok (.enter gf args) w)
 (h:∀ L:LP,F.fn L.fn→Hid (L.tmps=a.tmps)→Hid (L.ps=ps)→Hid (L.assign=assign)→Hid (L.body=body) →
  CallsIn F (n-1) P gf (#[.func (.yield (w.heap.size+1)) #[] #[]]++lb)
  ((w.alloc (.deferred (some []))).alloc (L.obj .ready none)) (L.ends F n P Q (Kx w.heap.size a) (w.heap.size+1))) :
 (Code.rangeFunc g ps assign body).wpIn F n P Q a w:=by
 refine wpIn_rangeFunc ?_
 intro fn hfn
 rw [hro]
 have hc:=h ⟨fn,a.tmps,ps,assign,body,w.heap.size⟩ hfn rfl rfl rfl rfl
 obtain⟨W1,hW1⟩:∃ W1,(w.alloc (.deferred (some []))).alloc (LP.obj ⟨fn,a.tmps,ps,assign,body,w.heap.size⟩ .ready none)=W1:=⟨_,rfl⟩
 rw [hW1]at hc
 refine⟨w.heap.size+1,[{ target:=.collected w.heap.size,args:=#[] }],W1,{ target:=.fn (.func gf) lb,args:=#[.func (.yield (w.heap.size+1)) #[] #[]] },W1,gf,
  #[.func (.yield (w.heap.size+1)) #[] #[]]++lb,W1,?_,?_,?_,?_,fun _=>h1,?_⟩
 ·rw [← hW1];exact run_enterLoop_outer _ _ _ _ _
 ·simp only [resolve,hg]
  simp [go_sem]
 ·intro f' hf';simp [Target.leads]at hf';subst hf';exact hFg
 ·simp [invoke,go_sem,eg]
 refine CallsIn.mono hc ?_
 intro e W hh
 obtain⟨v,st,jump,he,hst,hl,hj⟩:=hh
 subst he
 refine⟨jump,W.putObj (w.heap.size+1) (LP.obj ⟨fn,a.tmps,ps,assign,body,w.heap.size⟩ .exhausted jump),?_,?_⟩
 ·exact run_endLoop hl hst
 cases jump with
 | none=>exact hj
 | some c=>exact hj
def LP.round(L:LP)(l:Nat)(R:Ending→World→Prop)(e:Exit)(_a:Act)(W:World):Prop :=
 W.heap[l]?=some (L.obj .busy none) ∧
  match e with
  | .normal=>R (.returned (.bool true)) (W.putObj l (L.obj .ready none))
  | .ret=>R (.returned (.bool false)) (W.putObj l (L.obj .done (some .ret)))
  | .exit id=>R (.returned (.bool false)) (W.putObj l (L.obj .done (some (.exit id))))
  | .goto t=>R (.returned (.bool false)) (W.putObj l (L.obj .done (some (.goto t))))
  | _=>False
theorem mq{L:LP}{l:Nat}{args:Array Value}{W:World}{ps:Array Tmp}{tmps:Array Value}(hp:Hid (L.ps=ps))(ht:Hid (L.tmps=tmps))
 (h:W.heap[l]?=some (L.obj .ready none)) (hs:args.size=ps.size) :
 (Instr.yield l args).run P W=.ok (.round l L.fn ((ps.zip args).foldl (fun tmps (t,a)=>tmps.setIfInBounds t a) tmps) L.assign L.body) W:=by
 have hp':L.ps=ps:=hp
 have ht':L.tmps=tmps:=ht
 subst hp'
 subst ht'
 exact run_yield h hs
theorem nN{L:LP}{l:Nat}{tmps:Array Value}{w:World}{R:Ending→World→Prop}(hF:F.fn L.fn)
 (h:L.assign.wpIn (F.inRound l) n P (Exit.then (fun a₁ w₁=>w₁.heap[l]?=some (L.obj .ready none) ∧
  L.body.wpIn (F.inRound l) n P (L.round l R) a₁ (w₁.putObj l (L.obj .busy none))) (fun _ _ _=>False)) { tmps:=tmps,defers:=[] } w) :
 RoundIn F n P l L.fn tmps L.assign L.body w R:=by
 refine roundIn_of_wpIn hF (wpIn_mono h ?_)
 intro e a W hq
 cases e with
 | normal =>
  obtain⟨hl,hb⟩:=hq
  refine⟨_,run_beginRound hl rfl,wpIn_mono hb ?_⟩
  rintro e2 a2 W2 ⟨hl2,hr⟩
  cases e2 with
  | normal=>exact⟨_,_,run_endRound none hl2,hr⟩
  | ret=>exact⟨_,_,run_endRound (some .ret) hl2,hr⟩
  | exit id=>exact⟨_,_,run_endRound (some (.exit id)) hl2,hr⟩
  | goto t=>exact⟨_,_,run_endRound (some (.goto t)) hl2,hr⟩
  | panic c=>exact hr.elim
  | outgrown=>exact hr.elim
 | ret=>exact hq.elim
 | exit id=>exact hq.elim
 | goto t=>exact hq.elim
 | panic c=>exact hq.elim
 | outgrown=>exact hq.elim
theorem jw{W:World}{l k:Nat}{o o':Obj}(h:W.heap[k]?=some o)(hne:k≠l):(W.putObj l o').heap[k]?=some o :=
 (World.putObj_heap_other hne).trans h
theorem gv{W:World}{l:Nat}{o o':Obj}(h:W.heap[l]?=some o):(W.putObj l o').heap[l]?=some o' :=
 World.putObj_heap_same (Array.getElem?_eq_some_iff.1 h).1
theorem heap_set{W:World}{b k:Nat}{o:Obj}{v:Value}(h:W.heap[k]?=some o)(hne:k≠b):(W.setCell ⟨b,0,none⟩ v).heap[k]?=some o :=
 (Below.heap_setCell _ _ _ _ hne).trans h
theorem gY{B l:Nat}{a W:World}(h:Below B a W)(hl:B≤l)(o:Obj):Below B a (W.putObj l o) :=
 h.trans ⟨rfl,rfl,rfl,ai,fun k hk=>World.putObj_heap_other ab⟩
theorem _root_.Go.Boxed.put{W:World}{B l:Nat}{t:TypeId}{v:Value}{o:Obj}(h:Boxed W B t v)(hne:B≠l):Boxed (W.putObj l o) B t v:=jw h hne
def zU(W:World)(B:Nat):Nat:=match W.cell? ⟨B,0,none⟩with|some v=>(intOf v).toNat|none=>0
theorem oq{W:World}{B:Nat}{t:TypeId}{k:IntKind}{q:Int}(h:Boxed W B t (.int k q)):zU W B=q.toNat:=by
 unfold zU;rw [h.cell];rfl
theorem pf (W:World)(o:Obj)(k:Nat):(W.alloc o).heap[k]?=if k=W.heap.size then some o else W.heap[k]?:=by
 show(W.heap.push o)[k]?=_
 rw [Array.getElem?_push]
theorem nB{W:World}{o:Obj}{k:Nat}(h:k=W.heap.size):(W.alloc o).heap[k]?=some o:=by rw [pf,if_pos h]
theorem nC{W:World}{o o':Obj}{k:Nat}(h:k≠W.heap.size)(h':W.heap[k]?=some o'):(W.alloc o).heap[k]?=some o':=by rw [pf,if_neg h,h']
end Go.Proofs.YtidekfgkpindbaaGreatDoor
namespace Go.Proofs.YtidekfgkpindbaaGreatDoor
open Go Go.RowKit SX Go.Shelf
attribute [local go_sem] Oper.semAt_some
theorem zb(a n:Int)(w:World) :
 Calls Tryz.prog 114 #[.int .i64 a,.int .i64 n] w fun e w' =>
  e=.returned (.func (.func 136) #[] #[.pointer (some ⟨w.heap.size+1,0,none⟩),.pointer (some ⟨w.heap.size,0,none⟩)]) ∧
  (w.alloc (.cells #[.int .i64 a] 3)).alloc (.cells #[.int .i64 n] 3)=w':=by
 go_enter Tryz.func114,Tryz.ntmps114
 go_wp2
 go_ret
 exact⟨rfl,rfl⟩
def OS(w:World)(L:LP)(a n:Nat)(m:Nat)(W:World):Prop :=
 ∃ x c,Jac.xi a n c x m∧m≤n∧Boxed W w.heap.size 3 (.int .i64 c)∧Boxed W (w.heap.size+2) 3 (.int .i64 x)∧Boxed W (w.heap.size+3) 3 (.int .i64 m) ∧
  W.heap[w.heap.size+5]?=some (L.obj .ready none)∧W.heap[w.heap.size+4]?=some (.deferred (some []))∧Below w.heap.size w W
set_option maxHeartbeats 1000000 in
theorem LW(a n:Int)(w:World)(hv:Jac.fi a=true) :
 CallsIn Fence.wide 5 Tryz.prog 84 #[.int .i64 a,.int .i64 n] w fun e w'=>e=.returned (.tuple #[.int .i64 (Jac.aN a n),.int .i64 (Jac.gh a a)])∧Below w.heap.size w w':=by
 refine callsIn_of_wp_marks Tryz.func84 rfl trivial ?_ rfl
 simp only [Tryz.ntmps84,List.size_toArray,List.length_cons,List.length_nil,Nat.reduceAdd,Nat.reduceSub,Array.replicate_succ,Array.replicate_zero,List.push_toArray,List.append_toArray,List.nil_append,List.cons_append]
 gi_wp2_with (first|(refine⟨trivial,?_⟩;gi_at_call 70;refine CallsIn.mono (callsIn_wide.2 (l9 _ _)) ?_;rintro e w' ⟨rfl,rfl⟩)|(refine⟨trivial,?_⟩;gi_at_call 115;refine CallsIn.mono (callsIn_wide.2 (DL n _ _ ai)) ?_;rintro e w' ⟨rfl,rfl⟩)|(refine⟨trivial,?_⟩;gi_at_call 114;refine CallsIn.mono (callsIn_wide.2 (zb _ _ _)) ?_;rintro e w' ⟨rfl,rfl⟩))
 have hb:=Jac.dX hv
 obtain⟨x,rfl⟩:∃ x:Nat,a=x:=⟨a.toNat,ab⟩
 have hr:=Jac.mP n
 obtain⟨m,hm⟩:∃ m:Nat,Jac.w7 n=m:=⟨(Jac.w7 n).toNat,ab⟩
 rw [hm]
 refine mi rfl ab (gf:=136) rfl trivial (enters_of Tryz.func136 aa rfl) ?_
 intro L hLf hLt hLp hLa hLb
 refine callsIn_of_wp Tryz.func136 rfl trivial ?_
 simp only [Tryz.ntmps136,List.size_toArray,List.length_cons,List.length_nil,Nat.reduceAdd,Nat.reduceSub,Array.replicate_succ,Array.replicate_zero,List.push_toArray,List.append_toArray,List.nil_append,List.cons_append]
 gi_wp2
 gi_loopw [5] (fun _ W=>∃ k,OS w L x m k W) (fun _ W=>zU W (w.heap.size+3))
 case atStart =>
  refine⟨m,x,1,Jac.rz ab,Nat.le_refl _,?_,?_,?_,?_,?_,?_⟩
  ·repeat (first|exact nB (by first|rfl|(simp only [World.size_alloc];done)|(simp only [World.size_alloc];omega))|refine nC (by first|(simp only [World.size_alloc];omega)|omega) ?_)
  ·repeat (first|exact nB (by first|rfl|(simp only [World.size_alloc];done)|(simp only [World.size_alloc];omega))|refine nC (by first|(simp only [World.size_alloc];omega)|omega) ?_)
  ·repeat (first|exact nB (by first|rfl|(simp only [World.size_alloc];done)|(simp only [World.size_alloc];omega))|refine nC (by first|(simp only [World.size_alloc];omega)|omega) ?_)
  ·repeat (first|exact nB (by first|rfl|(simp only [World.size_alloc];done)|(simp only [World.size_alloc];omega))|refine nC (by first|(simp only [World.size_alloc];omega)|omega) ?_)
  ·repeat (first|exact nB (by first|rfl|(simp only [World.size_alloc];done)|(simp only [World.size_alloc];omega))|refine nC (by first|(simp only [World.size_alloc];omega)|omega) ?_)
  repeat (first|exact Below.refl _ _|(refine Below.alloc ?_ (by first|exact Nat.le_refl _|(simp only [World.size_alloc];omega)) _)|(refine Below.setCell ?_ ai _))
 case round =>
  obtain⟨k,y,c,hi,hkn,hc,hy,hk,hl,hD,hbl⟩:=hrel
  have hm0:=Lib.hid (oq hk)
  have c1:=hc.cell
  have c2:=hy.cell
  have c3:=hk.cell
  have f1:=hc.frozen
  have f2:=hy.frozen
  have f3:=hk.frozen
  have p1:=hi.1
  have p2:=hi.2.1
  have b1:c*y≤2147483578*2147483578:=Nat.mul_le_mul ab ab
  have b2:y*y≤2147483578*2147483578:=Nat.mul_le_mul ab ab
  by_cases h0:0<k
  ·have hks:k<9223372036854775808:=ab
   have hb2:=Go.Proofs.and_one k hks
   rcases Nat.mod_two_eq_zero_or_one k with ho|ho
   ·have hbit:(bits BinOp.and IntKind.i64 (↑k) 1 == 1)=false:=by rw [hb2,ho];rfl
    have hyd:=mq (P:=Tryz.prog) (args:=#[.int .i64 (y:Int),.bool false]) hLp hLt hl rfl
    have hi2:=Jac.ul hi ho
    clear hb2 ho
    gi_wp2
    refine nN trivial ?_
    rw [hLa.out]
    gi_wp2
    refine⟨hl,?_⟩
    rw [hLb.out]
    have hc1:=hc.put (o:=L.obj .busy none) (l:=w.heap.size+5) ab
    have hy1:=hy.put (o:=L.obj .busy none) (l:=w.heap.size+5) ab
    have hk1:=hk.put (o:=L.obj .busy none) (l:=w.heap.size+5) ab
    have hl1:=gv (o':=L.obj .busy none) hl
    have hD1:=jw (l:=w.heap.size+5) (o':=L.obj .busy none) hD ab
    have hbl1:=gY hbl (l:=w.heap.size+5) ab (L.obj .busy none)
    clear hyd c1 c2 c3 f1 f2 f3 hc hy hk hl hD hbl
    generalize wr.putObj (w.heap.size+5) (L.obj .busy none)=W1 at *
    have c1:=hc1.cell
    have c2:=hy1.cell
    have c3:=hk1.cell
    have f1:=hc1.frozen
    have f2:=hy1.frozen
    have f3:=hk1.frozen
    gi_wp2
    have HL:=hl1
    have HC:=hc1
    have HY:=hy1
    have HK:=hk1
    have HD:=hD1
    have HB:=hbl1
    clear hl1 hc1 hy1 hk1 hD1 hbl1
    clear c1 c2 c3 f1 f2 f3
    refine⟨HL,?_⟩
    have hl2:=gv (o':=L.obj .ready none) HL
    have hc2:=HC.put (o:=L.obj .ready none) (l:=w.heap.size+5) ab
    have hy2:=HY.put (o:=L.obj .ready none) (l:=w.heap.size+5) ab
    have hk2:=HK.put (o:=L.obj .ready none) (l:=w.heap.size+5) ab
    have hD2:=jw (l:=w.heap.size+5) (o':=L.obj .ready none) HD ab
    have hbl2:=gY HB (l:=w.heap.size+5) ab (L.obj .ready none)
    clear HL HC HY HK HD HB
    dsimp only
    generalize World.putObj _ (w.heap.size+5) (L.obj .ready none)=W2 at *
    have c1:=hc2.cell
    have c2:=hy2.cell
    have c3:=hk2.cell
    have f1:=hc2.frozen
    have f2:=hy2.frozen
    have f3:=hk2.frozen
    gi_wp2
    refine⟨⟨k / 2,_,_,hi2,ab,(hc2.other ab _).other ab _,(hy2.set _).other ab _,(hk2.other ab _).set _,
     heap_set (heap_set hl2 ab) ab,heap_set (heap_set hD2 ab) ab,(hbl2.setCell (p:=⟨w.heap.size+2,0,none⟩) ai _).setCell (p:=⟨w.heap.size+3,0,none⟩) ai _⟩,?_⟩
    rw [hm0.out,oq ((hk2.other (B':=w.heap.size+2) ab (.int .i64 ((y:Int)*y % 2147483579))).set (.int .i64 ((k:Int) / 2)))]
    omega
   have hbit:(bits BinOp.and IntKind.i64 (↑k) 1 == 1)=true:=by rw [hb2,ho];rfl
   have hyd:=mq (P:=Tryz.prog) (args:=#[.int .i64 (y:Int),.bool true]) hLp hLt hl rfl
   have hi2:=Jac.yA hi ho
   clear hb2 ho
   gi_wp2
   refine nN trivial ?_
   rw [hLa.out]
   gi_wp2
   refine⟨hl,?_⟩
   rw [hLb.out]
   have hc1:=hc.put (o:=L.obj .busy none) (l:=w.heap.size+5) ab
   have hy1:=hy.put (o:=L.obj .busy none) (l:=w.heap.size+5) ab
   have hk1:=hk.put (o:=L.obj .busy none) (l:=w.heap.size+5) ab
   have hl1:=gv (o':=L.obj .busy none) hl
   have hD1:=jw (l:=w.heap.size+5) (o':=L.obj .busy none) hD ab
   have hbl1:=gY hbl (l:=w.heap.size+5) ab (L.obj .busy none)
   clear hyd c1 c2 c3 f1 f2 f3 hc hy hk hl hD hbl
   generalize wr.putObj (w.heap.size+5) (L.obj .busy none)=W1 at *
   have c1:=hc1.cell
   have c2:=hy1.cell
   have c3:=hk1.cell
   have f1:=hc1.frozen
   have f2:=hy1.frozen
   have f3:=hk1.frozen
   gi_wp2
   have HL:=heap_set (v:=.int .i64 ((c:Int)*y % 2147483579)) (b:=w.heap.size) hl1 ab
   have HC:=hc1.set (.int .i64 ((c:Int)*y % 2147483579))
   have HY:=hy1.other (B':=w.heap.size) ab (.int .i64 ((c:Int)*y % 2147483579))
   have HK:=hk1.other (B':=w.heap.size) ab (.int .i64 ((c:Int)*y % 2147483579))
   have HD:=heap_set (v:=.int .i64 ((c:Int)*y % 2147483579)) (b:=w.heap.size) hD1 ab
   have HB:=hbl1.setCell (p:=⟨w.heap.size,0,none⟩) (Nat.le_refl _) (.int .i64 ((c:Int)*y % 2147483579))
   clear hl1 hc1 hy1 hk1 hD1 hbl1
   clear c1 c2 c3 f1 f2 f3
   refine⟨HL,?_⟩
   have hl2:=gv (o':=L.obj .ready none) HL
   have hc2:=HC.put (o:=L.obj .ready none) (l:=w.heap.size+5) ab
   have hy2:=HY.put (o:=L.obj .ready none) (l:=w.heap.size+5) ab
   have hk2:=HK.put (o:=L.obj .ready none) (l:=w.heap.size+5) ab
   have hD2:=jw (l:=w.heap.size+5) (o':=L.obj .ready none) HD ab
   have hbl2:=gY HB (l:=w.heap.size+5) ab (L.obj .ready none)
   clear HL HC HY HK HD HB
   dsimp only
   generalize World.putObj _ (w.heap.size+5) (L.obj .ready none)=W2 at *
   have c1:=hc2.cell
   have c2:=hy2.cell
   have c3:=hk2.cell
   have f1:=hc2.frozen
   have f2:=hy2.frozen
   have f3:=hk2.frozen
   gi_wp2
   refine⟨⟨k / 2,_,_,hi2,ab,(hc2.other ab _).other ab _,(hy2.set _).other ab _,(hk2.other ab _).set _,
    heap_set (heap_set hl2 ab) ab,heap_set (heap_set hD2 ab) ab,(hbl2.setCell (p:=⟨w.heap.size+2,0,none⟩) ai _).setCell (p:=⟨w.heap.size+3,0,none⟩) ai _⟩,?_⟩
   rw [hm0.out,oq ((hk2.other (B':=w.heap.size+2) ab (.int .i64 ((y:Int)*y % 2147483579))).set (.int .i64 ((k:Int) / 2)))]
   omega
  have hk0:k=0:=ab
  gi_wp2
  go_end0
  refine⟨_,.ready,none,rfl,ai,hl,?_⟩
  unfold Gw Kx
  dsimp only
  have hc2:=hc.put (o:=L.obj .exhausted none) (l:=w.heap.size+5) ab
  have hD2:=jw (l:=w.heap.size+5) (o':=L.obj .exhausted none) hD ab
  have hbl2:=gY hbl (l:=w.heap.size+5) ab (L.obj .exhausted none)
  clear hc hl hD hbl hy hk c1 c2 c3 f1 f2 f3
  have e5:w.heap.size+1+1+1+1+1=w.heap.size+5:=rfl
  rw [e5]
  generalize World.putObj _ (w.heap.size+5) (L.obj .exhausted none)=W2 at *
  have c1:=hc2.cell
  have f1:=hc2.frozen
  gi_wp2
  subst hk0
  have e1:=Jac.yz hi
  have hc3:=hc2.set (.int .i64 (c:Int))
  have hD3:=heap_set (v:=.int .i64 (c:Int)) (b:=w.heap.size) hD2 ab
  have hb3:=hbl2.setCell (p:=⟨w.heap.size,0,none⟩) (Nat.le_refl _) (.int .i64 (c:Int))
  generalize World.setCell W2 _ _=W3 at *
  have hc4:=(hc3.put (o:=.deferred none) (l:=w.heap.size+4) ab).cell
  refine⟨ai,.inl ⟨_,_,rfl,run_takeDeferred hD3,?_⟩⟩
  refine⟨.tuple #[.int .i64 c,.int .i64 0],?_,rO ?_ ?_,gY hb3 ab _⟩
  ·simp [results,Tryz.f84,go_sem,hc4]
  ·rcases Jac.oI x n with ⟨h1,_⟩|⟨_,_,_,h2,_⟩
   ·rw [hv]at h1;cases h1
   rw [h2,hm,Int.toNat_natCast,Int.toNat_natCast,e1]
  rw [Jac.DQ,if_pos hv]
theorem JR(a n:Int)(w:World) :
 RT 84 #[.int .i64 a,.int .i64 n] w (.tuple #[.int .i64 (Jac.aN a n),.int .i64 (Jac.gh a a)]):=by
 rcases Jac.oI a n with ⟨hv,hm⟩|⟨hv,_⟩
 ·have HM:=Lib.hid hm
  clear hm
  go_enter Tryz.func84,Tryz.ntmps84
  go_wp2_with (go_at_call 70;refine(l9 _ _).mono ?_;rintro e w' ⟨rfl,rfl⟩)
  refine bodyPost_ret (v:=.tuple #[.int .i64 0,.int .i64 100]) (by simp [results,Tryz.results84,go_sem]) rfl ⟨rO HM.out.1.symm HM.out.2.symm,?_⟩
  repeat (first|exact Below.refl _ _|(refine Below.alloc ?_ (by first|exact Nat.le_refl _|(simp only [World.size_alloc];omega)) _)|(refine Below.setCell ?_ ai _))
 exact callsIn_wide.1 (LW a n w hv)
end Go.Proofs.YtidekfgkpindbaaGreatDoor
namespace Go.Proofs.YtidekfgkpindbaaGreatDoor.Jac
theorem wS(x:Nat)(h1:1≤x)(h2:x<2147483579):fi (x:Int)=decide (mu 1073741789 x % 2=0):=by
 unfold fi
 rw [Int.toNat_natCast,decide_eq_true (by omega:(1:Int)≤(x:Int)),decide_eq_true (by omega:(x:Int)<2147483579)]
 simp only [Bool.true_and]
theorem yl{a b:Nat}(ha:1≤a)(ha':a<2147483579)(hb:1≤b)(hb':b<2147483579):1≤a*b % 2147483579 :=
 qg (h:=1073741789) (ej ha ha') hb hb'
theorem Ki{a b:Nat}(ha:1≤a)(ha':a<2147483579)(hb:1≤b)(hb':b<2147483579) :
 fi ((a*b % 2147483579:Nat):Int)=(fi (a:Int) == fi (b:Int)):=by
 have h1:=yl ha ha' hb hb'
 have h2:=Nat.mod_lt (a*b) (by omega:2147483579>0)
 rw [wS _ h1 h2,wS a ha ha',wS b hb hb']
 have e:=GH 1073741789 (a*b)
 have m:=GI (h:=1073741789) (ej ha ha') (ej hb hb')
 rw [show 2*1073741789+1=2147483579 from rfl]at e
 rw [e]
 generalize mu 1073741789 (a*b)=u at *
 generalize mu 1073741789 a=p at *
 generalize mu 1073741789 b=q at *
 rcases Nat.mod_two_eq_zero_or_one p with hp|hp<;>rcases Nat.mod_two_eq_zero_or_one q with hq|hq
 ·rw [decide_eq_true hp,decide_eq_true hq,decide_eq_true ab];rfl
 ·rw [decide_eq_true hp,decide_eq_false ab,decide_eq_false ab];rfl
 ·rw [decide_eq_false ab,decide_eq_true hq,decide_eq_false ab];rfl
 rw [decide_eq_false (by omega:¬ p % 2=0),decide_eq_false (by omega:¬ q % 2=0),decide_eq_true ab];rfl
theorem fQ:fi 4=true:=by
 have:=Ki (a:=2) (b:=2) ab ab ab ab
 simpa using this
theorem JP(a:Nat):pm a 0=1:=rfl
theorem LV{a:Nat}(h:a<2147483579):pm a 1=a:=by unfold pm;rw [Nat.pow_one,Nat.mod_eq_of_lt h]
theorem LU(a m n:Nat):pm a (m+n)=pm a m*pm a n % 2147483579:=by
 unfold pm;rw [Nat.pow_add,Nat.mul_mod]
theorem KD(a m n:Nat):pm (pm a m) n=pm a (m*n):=by
 unfold pm;rw [← Nat.pow_mod,← Nat.pow_mul]
theorem yE(n:Nat):pm 1 n=1:=by unfold pm;rw [Nat.one_pow]
theorem G0{a:Nat}(h:fi (a:Int)=true):pm a 1073741789=1:=by
 have hb:=dX h
 rw [wR ab ab]at h
 exact of_decide_eq_true h
theorem zm{a:Nat}(h:fi (a:Int)=true)(n:Nat):fi ((pm a n:Nat):Int)=true:=by
 have hb:=dX h
 have ho:=G0 h
 have hp:1≤pm a n:=by
  induction n with
  | zero=>rw [JP];omega
  | succ k ih=>rw [LU,LV ab];exact yl ih (GZ _ _) ab ab
 have e:pm (pm a n) 1073741789=1:=by
  generalize hq:(1073741789:Nat)=q at *
  rw [KD,Nat.mul_comm,← KD,ho,yE]
 rw [wR hp (GZ _ _)]
 exact decide_eq_true e
theorem JQ{a n:Int}(ha:fi a=true):aN a n=((pm a.toNat (w7 n).toNat:Nat):Int):=by unfold aN;rw [if_pos ha]
theorem G1{a:Nat}{n:Int}(ha:fi (a:Int)=true):aN a n=((pm a (w7 n).toNat:Nat):Int):=by rw [JQ ha,Int.toNat_natCast]
theorem lq{a n:Int}(ha:fi a=true):fi (aN a n)=true:=by
 have h1:=dX ha
 obtain⟨x,rfl⟩:∃ k:Nat,a=k:=⟨a.toNat,ab⟩
 rw [G1 ha]
 exact zm ha _
end Go.Proofs.YtidekfgkpindbaaGreatDoor.Jac
namespace Go.Proofs.YtidekfgkpindbaaGreatDoor
open Go Go.RowKit SX
theorem KU{W:World}{u:Value}{fs:List mw}(h:SX.Arg.rd W ⟨u,1,FE fs⟩):∃ A n c,u=.slice A n c∧Rd W 1 A n (FE fs)∧n≤c∧fs.length=n:=by
 unfold SX.Arg.rd at h
 split at h
 ·rename_i A n c hu
  have hu:u=.slice A n c:=hu
  refine⟨A,n,c,hu,h.1,h.2,?_⟩
  have:=h.1.1;simp only [BL]at this;omega
 cases h
def kQ:ByteArray:=⟨#[110,111,110,99,101]⟩
def dI:ByteArray:=⟨#[115,105,103,110]⟩
def dq(tag:ByteArray)(fl:List Fl):Int:=(nz (kg (sb tag) (aG fl)):Int)
theorem qS(tag:ByteArray)(fl:List Fl):0≤dq tag fl∧dq tag fl<1073741789:=by
 unfold dq nz
 omega
theorem fe{l:List Fl}(h:∀ z∈l,z.fits)(hl:l.length≤1048576):(aG l).length<2 ^ 44:=by
 have h1:=qJ h
 have h2:=cU 9 l.length ab
 simp only [aG,List.length_cons,List.length_append]
 omega
theorem Cs{x:Int}(h:0≤x):aZ .rem (.int .i64 x) (.int .i64 1073741789)=some (.int .i64 (x % 1073741789)):=by
 simp only [aZ,if_true]
 rw [if_neg aj,Int.tmod_eq_emod_of_nonneg h]
def uH:SX.Tree :=
(.df (.bin .add 82) [(.q 0),(.q 1)] .one
(.df (.bin .rem 82) [(.q 2),(.i 1073741789)] .one
(.ret (.q 3) [] [])))
def CV:List SX.V:=[.x 0 [],.x 1 []]
theorem jE(K A:QV):QU (sU K A) ⟨fun f=>true,[],0,100⟩ 48 Tryz.f48 CV [.one,.one]=uH:=aa
theorem GX(a n:Int)(w:World)(h1:0≤a)(h2:a<1073741789)(h3:0≤n)(h4:n<1073741789):RT 48 #[.int .i64 a,.int .i64 n] w (.int .i64 ((a+n) % 1073741789)):=by
 refine QG (jE QW QW) [.int .i64 a,.int .i64 n] (fo _ _) Tryz.func48 ?_ ?_
 ·exact fun W _=>cD (fun _ _ _ h=>h) W
 unfold uH
 refine QC (.int .i64 (a+n)) (fun α=>QH (a+n)) ?_
 refine QC (.int .i64 ((a+n) % 1073741789)) (fun α=>Eq.trans (b:=aZ .rem (.int .i64 (a+n)) (.int .i64 1073741789)) aa (Cs ab)) ?_
 exact QE (.int .i64 ((a+n) % 1073741789)) (rfl)
theorem yn{a n:Int}(h1:0≤a)(h2:a<1073741789)(h3:0≤n)(h4:n<1073741789):0≤a*n∧a*n≤1152921439882018521:=by
 refine⟨Int.mul_nonneg h1 h3,Int.le_trans (Int.mul_le_mul (show a≤1073741789 by omega) (show n≤1073741789 by omega) h3 aj) aj⟩
def sK:SX.Tree :=
(.df (.bin .mul 82) [(.q 0),(.q 1)] .one
(.df (.bin .rem 82) [(.q 2),(.i 1073741789)] .one
(.ret (.q 3) [] [])))
def zS:List SX.V:=[.x 0 [],.x 1 []]
theorem EY(K A:QV):QU (sU K A) ⟨fun f=>true,[],0,100⟩ 49 Tryz.f49 zS [.one,.one]=sK:=aa
theorem Fa(a n:Int)(w:World)(h1:0≤a)(h2:a<1073741789)(h3:0≤n)(h4:n<1073741789):RT 49 #[.int .i64 a,.int .i64 n] w (.int .i64 (a*n % 1073741789)):=by
 refine QG (EY QW QW) [.int .i64 a,.int .i64 n] (fo _ _) Tryz.func49 ?_ ?_
 ·exact fun W _=>cD (fun _ _ _ h=>h) W
 unfold sK
 refine QC (.int .i64 (a*n)) (fun α=>Eq.trans (b:=some (.int .i64 (IntKind.i64.wrap (a*n)))) aa (by rw [wrap_i64 (by have:=yn h1 h2 h3 h4;omega) (by have:=yn h1 h2 h3 h4;omega)])) ?_
 refine QC (.int .i64 ((a*n) % 1073741789)) (fun α=>Eq.trans (b:=aZ .rem (.int .i64 (a*n)) (.int .i64 1073741789)) aa (Cs (yn h1 h2 h3 h4).1)) ?_
 exact QE (.int .i64 ((a*n) % 1073741789)) (rfl)
def Qm(f:FuncId)(xs:List SX.Arg)(v:Value):Prop :=
 (f=84∧∃ a n:Int,xs=[⟨.int .i64 a,0,[]⟩,⟨.int .i64 n,0,[]⟩]∧v=.tuple #[.int .i64 (Jac.aN a n),.int .i64 (Jac.gh a a)])
def N5:FuncId→Option SX.Sh:=fun f=>if f=84 then some (.tp [.one,.one])else none
noncomputable def M3(K A:QV):SX.Cx:={ P:=Tryz.prog,R:=fun _=>Qm,shp:=N5,K:=K,A:=A }
theorem Pu(K A:QV):(M3 K A).Ok:=by
 refine SX.Cx.b6 al ?_
 intro K f xs v W hR hrd hKf
 rcases hR with ⟨rfl,a,n,rfl,rfl⟩
 exact(JR a n W).mono fun e w' h=>ay rfl h
def sD:SX.Tree :=
(.df (.call 84 [.no,.no]) [(.q 0),(.q 1)] (.tp [.one,.one])
(.ret (.x 2 [0]) [] []))
def zN:List SX.V:=[.x 0 [],.x 1 []]
theorem EN(K A:QV):QU (M3 K A) ⟨fun f=>true,[],0,100⟩ 47 Tryz.f47 zN [.one,.one]=sD:=aa
theorem AL(a n:Int)(w:World)  : RT 47 #[.int .i64 a,.int .i64 n] w (.int .i64 (Jac.aN a n)):=by
 refine QG (EN QW QW) [.int .i64 a,.int .i64 n] (Pu _ _) Tryz.func47 ?_ ?_
 ·exact fun W _=>cD (fun _ _ _ h=>h) W
 unfold sD
 refine QC (.tuple #[.int .i64 ((Jac.aN a n)),.int .i64 ((Jac.gh a a))]) (fun α=>⟨[⟨.int .i64 a,0,[]⟩,⟨.int .i64 n,0,[]⟩],QQ,⟨rfl,_,_,rfl,rfl⟩,ap rfl⟩) ?_
 exact QE (.int .i64 ((Jac.aN a n))) (rfl)
def Qo(K:QV)(f:FuncId)(xs:List SX.Arg)(v:Value):Prop :=
 (f=46∧∃ (u:Value) (fs:List mw),xs=[⟨u,1,FE fs⟩]∧fs.length≤1048576∧(∀ B m d tx,mw.s B m d tx∈fs→K (.slice B m d) 1 ((sb tx).flatMap c8))∧(∀ z∈fs,(ir z).fits)∧v=.agg ((aG (fs.map ir)).flatMap c8).toArray) ∨
 (f=45∧Kn K f xs v) ∨
 (f=47∧∃ a n:Int,xs=[⟨.int .i64 a,0,[]⟩,⟨.int .i64 n,0,[]⟩]∧v=.int .i64 (Jac.aN a n)) ∨
 (f=70∧∃ x:Int,xs=[⟨.int .i64 x,0,[]⟩]∧v=.bool (Jac.fi x)) ∨
 (f=71∧∃ a n:Int,xs=[⟨.int .i64 a,0,[]⟩,⟨.int .i64 n,0,[]⟩]∧v=.tuple #[.int .i64 (Jac.er a n),.int .i64 (Jac.gh a n)]) ∨
 (f=48∧∃ a n:Int,xs=[⟨.int .i64 a,0,[]⟩,⟨.int .i64 n,0,[]⟩]∧0≤a∧a<1073741789∧0≤n∧n<1073741789∧v=.int .i64 ((a+n) % 1073741789)) ∨
 (f=49∧∃ a n:Int,xs=[⟨.int .i64 a,0,[]⟩,⟨.int .i64 n,0,[]⟩]∧0≤a∧a<1073741789∧0≤n∧n<1073741789∧v=.int .i64 (a*n % 1073741789))
def N7:FuncId→Option SX.Sh:=fun f=>if f=46 then some (.sl 1)else if f=45 then some .one else if f=47 then some .one else if f=70 then some .one else if f=71 then some (.tp [.one,.one])else if f=48 then some .one else if f=49 then some .one else none
noncomputable def Lc(K A:QV):SX.Cx:={ P:=Tryz.prog,R:=Qo,shp:=N7,K:=K,A:=A,trm:=true }
theorem Nz(K A:QV):(Lc K A).Ok:=by
 refine SX.Cx.b6 al ?_
 intro K f xs v W hR hrd hKf
 rcases hR with ⟨rfl,u,fs,rfl,hl,htx,hfit,rfl⟩|⟨rfl,hR⟩|⟨rfl,a,n,rfl,rfl⟩|⟨rfl,x,rfl,rfl⟩|⟨rfl,a,n,rfl,rfl⟩|⟨rfl,a,n,rfl,h1,h2,h3,h4,rfl⟩|⟨rfl,a,n,rfl,h1,h2,h3,h4,rfl⟩
 ·refine Calls.mono ?_ fun e w' h=>aH.tc rfl h
  obtain⟨A,n,c,rfl,h2,h3,h4⟩:=KU (hrd ⟨u,1,FE fs⟩ ai)
  exact E6 fs A n c W h2 ab h3 (fun B m d tx hm=>hKf _ _ _ (htx B m d tx hm)) hfit
 ·exact(xY hR hrd hKf).mono fun e w' h=>ay rfl h
 ·exact(AL a n W).mono fun e w' h=>ay rfl h
 ·exact(l9 x W).mono fun e w' h=>ay rfl ⟨h.1,h.2▸Below.refl _ _⟩
 ·exact(JJ a n W).mono fun e w' h=>ay rfl ⟨h.1,h.2▸Below.refl _ _⟩
 ·exact(GX a n W h1 h2 h3 h4).mono fun e w' h=>ay rfl h
 exact(Fa a n W h1 h2 h3 h4).mono fun e w' h=>ay rfl h
def bU(secret:Int)(tx:ByteArray):Int:=max (dq kQ [.n secret,.s tx]) 1
def gl(r key:Int)(tx:ByteArray):Int:=dq dI [.n r,.n key,.s tx]
def fP(secret:Int)(tx:ByteArray):Int×Int×Int :=
 if secret<1∨1073741789≤secret then(0,0,110)
 else(gl (Jac.aN 4 (bU secret tx)) (Jac.aN 4 secret) tx,(bU secret tx+gl (Jac.aN 4 (bU secret tx)) (Jac.aN 4 secret) tx*secret % 1073741789) % 1073741789,0)
def gn(key:Int)(tx:ByteArray)(E S:Int):Bool :=
 if E<0∨S<0∨1073741789≤E∨1073741789≤S∨Jac.fi key=false then false
 else decide (E=gl (Jac.er (Jac.aN 4 S) (Jac.aN key (-E))) key tx)
theorem DS(secret:Int)(tx:ByteArray):1≤bU secret tx∧bU secret tx<1073741789:=by
 have:=qS kQ [.n secret,.s tx]
 unfold bU
 omega
theorem Ef(r key:Int)(tx:ByteArray):0≤gl r key tx∧gl r key tx<1073741789:=qS _ _
theorem Cn(a n:Int):0≤Jac.aN a n∧Jac.aN a n<2147483579:=by
 unfold Jac.aN
 split
 ·have:=Jac.GZ a.toNat (Jac.w7 n).toNat;omega
 omega
theorem Ck(a b:Int):0≤Jac.er a b∧Jac.er a b<2147483579:=by
 unfold Jac.er
 split<;>omega
theorem Cg(x y:Int):yk (.int .i64 x) (.int .i64 y)=some (.int .i64 (max x y)):=by
 simp only [yk,if_true]
 congr 2
 show JE _ _=_
 unfold JE
 split<;>omega
theorem JG(x y:Int):Az (.int .i64 x) (.int .i64 y)=some (.int .i64 (min x y)):=by
 simp only [Az,if_true]
 congr 2
 show JF _ _=_
 unfold JF
 split<;>omega
theorem bg(l:List W8):SX.Sh.fit (.sl 1) (.agg (l.flatMap c8).toArray)=true:=by
 have h2:(l.flatMap c8).all (·.oneCell')=true:=by
  rw [List.all_eq_true]
  intro u hu
  obtain⟨a,_,h⟩:=List.mem_flatMap.1 hu
  exact w6 a u h
 have h1:(l.flatMap c8).length % 1=0:=Nat.mod_one _
 simp only [SX.Sh.fit,h1,h2]
 rfl
def uX:SX.Tree :=
(.df (.bin .lss 3) [(.q 0),(.i 1)] .one
(.br 2 []
(.ret (.t [(.a [(.i 0),(.i 0)]),(.i 110)]) [] [])
(.df (.bin .geq 3) [(.q 0),(.i 1073741789)] .one
(.br 3 []
(.ret (.t [(.a [(.i 0),(.i 0)]),(.i 110)]) [] [])
(.df (.call 46 [(.own 1 [(.ifc 3 (.q 0)),(.ifc 46 (.q 1))])]) [(.sl 1 0 2 2)] (.sl 1)
(.df (.call 45 [.no,(.row 1 [(.q 4)])]) [(.k (.string ⟨#[110,111,110,99,101]⟩)),(.row 2)] .one
(.df .max [(.q 5),(.i 1)] .one
(.df (.call 47 [.no,.no]) [(.i 4),(.q 6)] .one
(.df (.call 47 [.no,.no]) [(.i 4),(.q 0)] .one
(.df (.call 46 [(.own 1 [(.ifc 3 (.q 7)),(.ifc 3 (.q 8)),(.ifc 46 (.q 1))])]) [(.sl 3 0 3 3)] (.sl 1)
(.df (.call 45 [.no,(.row 1 [(.q 9)])]) [(.k (.string ⟨#[115,105,103,110]⟩)),(.row 4)] .one
(.df (.call 49 [.no,.no]) [(.q 10),(.q 0)] .one
(.df (.bin .add 82) [(.q 6),(.q 11)] .one
(.df (.bin .rem 82) [(.q 12),(.i 1073741789)] .one
(.ret (.t [(.a [(.q 10),(.q 13)]),(.i 0)]) [] [])))))))))))))))
def Db:List SX.V:=[.x 0 [],.x 1 []]
theorem HW(K A:QV):QU (Lc K A) ⟨fun f=>true,[],0,100⟩ 20 Tryz.f20 Db [.one,.one]=uX:=aa
theorem Ih(secret:Int)(tx:ByteArray)(A:Option Addr)(n c:Nat)(w:World)(hr:Rd w 1 A n ((sb tx).flatMap c8))(hc:n≤c)(htx:tx.size≤1048576)(hlaid:Laid w):RT 20 #[.int .i64 secret,.slice A n c] w (.tuple #[.agg #[.int .i64 (fP secret tx).1,.int .i64 (fP secret tx).2.1],.int .i64 (fP secret tx).2.2]):=by
 refine QG (HW (KS A n c (sb tx)) QW) [.int .i64 secret,.slice A n c] (Nz _ _) Tryz.func20 ?_ ?_
 ·rintro W hW s sz cells (⟨rfl,rfl,rfl⟩|⟨rfl,rfl,rfl⟩|⟨rfl,rfl,rfl⟩)
  ·exact⟨hr.aJ hW,hc⟩
  ·exact⟨hlaid.1.aJ hW,Nat.le_refl _⟩
  exact⟨hlaid.2.aJ hW,Nat.le_refl _⟩
 unfold uX
 refine QB (.bool (decide (secret<1))) ?_
 refine QD (decide (secret<1)) (fun h2=>?_) (fun h2=>?_)
 ·try simp only [cb]at h2
  exact QE (.tuple #[.agg #[.int .i64 0,.int .i64 0],.int .i64 110]) (by unfold fP;rw [if_pos ab])
 try simp only [cb]at h2
 refine QB (.bool (decide (secret≥1073741789))) ?_
 refine QD (decide (secret≥1073741789)) (fun h3=>?_) (fun h3=>?_)
 ·try simp only [cb]at h3
  exact QE (.tuple #[.agg #[.int .i64 0,.int .i64 0],.int .i64 110]) (by unfold fP;rw [if_pos ab])
 try simp only [cb]at h3
 refine aO (Value.agg ((aG [.n secret,.s tx]).flatMap c8).toArray) (fun α=>⟨[⟨.slice (some ⟨(α 1).b,0,none⟩) 2 2,1,FE [.n secret,.s A n c tx]⟩],QO,.inl ⟨rfl,_,[.n secret,.s A n c tx],rfl,ai,fun B m d t h=>by simp only [List.mem_cons,List.not_mem_nil,or_false,reduceCtorEq,false_or,mw.s.injEq]at h;obtain⟨rfl,rfl,rfl,rfl⟩:=h;exact .inl ⟨rfl,rfl,rfl⟩,by intro z hz;simp only [List.mem_cons,List.not_mem_nil,or_false]at hz;rcases hz with rfl|rfl<;>simp only [ir,Fl.fits]<;>omega,rfl⟩,ap rfl⟩) ((bg _)) ?_
 refine QC (.int .i64 ((dq kQ [.n secret,.s tx]))) (fun α=>⟨[⟨.string kQ,0,[]⟩,⟨(α 2).h,1,(aG [.n secret,.s tx]).flatMap c8⟩],⟨aa,aa,Eq.trans (b:=(⟨(α 2).h,1,[Value.agg ((aG [.n secret,.s tx]).flatMap c8).toArray].flatMap ae⟩:SX.Arg)) (by simp [ae]) aa,trivial⟩,.inr (.inl ⟨rfl,rfl,⟨.inr (.inl ⟨rfl,rfl,rfl⟩),.inr (.inr ⟨rfl,rfl,rfl⟩)⟩,kQ,_,aG [.n secret,.s tx],rfl,aj,fe (by intro z hz;simp only [List.mem_cons,List.not_mem_nil,or_false]at hz;rcases hz with rfl|rfl<;>simp only [Fl.fits]<;>omega) ai,rfl⟩),ap rfl⟩) ?_
 refine QC (.int .i64 ((bU secret tx))) (fun α=>Eq.trans (b:=yk (.int .i64 (dq kQ [.n secret,.s tx])) (.int .i64 1)) aa (Cg _ _)) ?_
 have hkb:=DS secret tx
 have hp1:=Cn 4 (bU secret tx)
 have hp2:=Cn 4 secret
 refine QC (.int .i64 ((Jac.aN 4 ((bU secret tx))))) (fun α=>⟨[⟨.int .i64 4,0,[]⟩,⟨.int .i64 ((bU secret tx)),0,[]⟩],QQ,.inr (.inr (.inl ⟨rfl,_,_,rfl,rfl⟩)),ap rfl⟩) ?_
 refine QC (.int .i64 ((Jac.aN 4 secret))) (fun α=>⟨[⟨.int .i64 4,0,[]⟩,⟨.int .i64 secret,0,[]⟩],QQ,.inr (.inr (.inl ⟨rfl,_,_,rfl,rfl⟩)),ap rfl⟩) ?_
 refine aO (Value.agg ((aG [.n ((Jac.aN 4 ((bU secret tx)))),.n ((Jac.aN 4 secret)),.s tx]).flatMap c8).toArray) (fun α=>⟨[⟨.slice (some ⟨(α 3).b,0,none⟩) 3 3,1,FE [.n ((Jac.aN 4 ((bU secret tx)))),.n ((Jac.aN 4 secret)),.s A n c tx]⟩],QO,.inl ⟨rfl,_,[.n ((Jac.aN 4 ((bU secret tx)))),.n ((Jac.aN 4 secret)),.s A n c tx],rfl,ai,fun B m d t h=>by simp only [List.mem_cons,List.not_mem_nil,or_false,reduceCtorEq,false_or,mw.s.injEq]at h;obtain⟨rfl,rfl,rfl,rfl⟩:=h;exact .inl ⟨rfl,rfl,rfl⟩,by intro z hz;simp only [List.mem_cons,List.not_mem_nil,or_false]at hz;rcases hz with rfl|rfl|rfl<;>simp only [ir,Fl.fits]<;>omega,rfl⟩,ap rfl⟩) ((bg _)) ?_
 refine QC (.int .i64 ((dq dI [.n ((Jac.aN 4 ((bU secret tx)))),.n ((Jac.aN 4 secret)),.s tx]))) (fun α=>⟨[⟨.string dI,0,[]⟩,⟨(α 4).h,1,(aG [.n ((Jac.aN 4 ((bU secret tx)))),.n ((Jac.aN 4 secret)),.s tx]).flatMap c8⟩],⟨aa,aa,Eq.trans (b:=(⟨(α 4).h,1,[Value.agg ((aG [.n ((Jac.aN 4 ((bU secret tx)))),.n ((Jac.aN 4 secret)),.s tx]).flatMap c8).toArray].flatMap ae⟩:SX.Arg)) (by simp [ae]) aa,trivial⟩,.inr (.inl ⟨rfl,rfl,⟨.inr (.inl ⟨rfl,rfl,rfl⟩),.inr (.inr ⟨rfl,rfl,rfl⟩)⟩,dI,_,aG [.n ((Jac.aN 4 ((bU secret tx)))),.n ((Jac.aN 4 secret)),.s tx],rfl,aj,fe (by intro z hz;simp only [List.mem_cons,List.not_mem_nil,or_false]at hz;rcases hz with rfl|rfl|rfl<;>simp only [Fl.fits]<;>omega) ai,rfl⟩),ap rfl⟩) ?_
 have heb:=Ef (Jac.aN 4 (bU secret tx)) (Jac.aN 4 secret) tx
 have hes:=qS dI [.n (Jac.aN 4 (bU secret tx)),.n (Jac.aN 4 secret),.s tx]
 refine QC (.int .i64 ((((dq dI [.n ((Jac.aN 4 ((bU secret tx)))),.n ((Jac.aN 4 secret)),.s tx]))*secret % 1073741789))) (fun α=>⟨[⟨.int .i64 ((dq dI [.n ((Jac.aN 4 ((bU secret tx)))),.n ((Jac.aN 4 secret)),.s tx])),0,[]⟩,⟨.int .i64 secret,0,[]⟩],QQ,.inr (.inr (.inr (.inr (.inr (.inr (⟨rfl,_,_,rfl,ab,ab,ab,ab,rfl⟩)))))),ap rfl⟩) ?_
 have hub:=Int.emod_nonneg ((dq dI [.n (Jac.aN 4 (bU secret tx)),.n (Jac.aN 4 secret),.s tx])*secret) (show(1073741789:Int)≠0 by decide)
 have hub2:=Int.emod_lt_of_pos ((dq dI [.n (Jac.aN 4 (bU secret tx)),.n (Jac.aN 4 secret),.s tx])*secret) (show(0:Int)<1073741789 by decide)
 refine QC (.int .i64 (((bU secret tx))+((((dq dI [.n ((Jac.aN 4 ((bU secret tx)))),.n ((Jac.aN 4 secret)),.s tx]))*secret % 1073741789)))) (fun α=>Eq.trans (b:=some (.int .i64 (IntKind.i64.wrap (((bU secret tx))+((((dq dI [.n ((Jac.aN 4 ((bU secret tx)))),.n ((Jac.aN 4 secret)),.s tx]))*secret % 1073741789)))))) aa (by rw [wrap_i64 ab ab])) ?_
 refine QC (.int .i64 ((((bU secret tx))+((((dq dI [.n ((Jac.aN 4 ((bU secret tx)))),.n ((Jac.aN 4 secret)),.s tx]))*secret % 1073741789))) % 1073741789)) (fun α=>Eq.trans (b:=aZ .rem (.int .i64 (((bU secret tx))+((((dq dI [.n ((Jac.aN 4 ((bU secret tx)))),.n ((Jac.aN 4 secret)),.s tx]))*secret % 1073741789)))) (.int .i64 1073741789)) aa (Cs ab)) ?_
 exact QE (.tuple #[.agg #[.int .i64 ((dq dI [.n ((Jac.aN 4 ((bU secret tx)))),.n ((Jac.aN 4 secret)),.s tx])),.int .i64 ((((bU secret tx))+((((dq dI [.n ((Jac.aN 4 ((bU secret tx)))),.n ((Jac.aN 4 secret)),.s tx]))*secret % 1073741789))) % 1073741789)],.int .i64 0]) (by unfold fP;rw [if_neg ab];rfl)
def pM:SX.Tree :=
(.df .min [(.q 2),(.q 3)] .one
(.df (.bin .lss 3) [(.q 4),(.i 0)] .one
(.br 5 []
(.ret (.k (.bool false)) [] [])
(.df .max [(.q 2),(.q 3)] .one
(.df (.bin .geq 3) [(.q 6),(.i 1073741789)] .one
(.br 7 []
(.ret (.k (.bool false)) [] [])
(.df (.call 70 [.no]) [(.q 0)] .one
(.df .not [(.q 8)] .one
(.br 9 []
(.ret (.k (.bool false)) [] [])
(.df (.call 47 [.no,.no]) [(.i 4),(.q 3)] .one
(.df .neg [(.q 2)] .one
(.df (.call 47 [.no,.no]) [(.q 0),(.q 11)] .one
(.df (.call 71 [.no,.no]) [(.q 10),(.q 12)] (.tp [.one,.one])
(.df (.call 46 [(.own 1 [(.ifc 3 (.x 13 [0])),(.ifc 3 (.q 0)),(.ifc 46 (.q 1))])]) [(.sl 9 0 3 3)] (.sl 1)
(.df (.call 45 [.no,(.row 1 [(.q 14)])]) [(.k (.string ⟨#[115,105,103,110]⟩)),(.row 10)] .one
(.df (.bin .eql 3) [(.q 2),(.q 15)] .one
(.ret (.q 16) [] [])))))))))))))))))
def xD:List SX.V:=[.x 0 [],.x 1 [],.a [.x 2 [],.x 3 []]]
theorem Bu(K A:QV):QU (Lc K A) ⟨fun f=>true,[],0,100⟩ 37 Tryz.f37 xD (List.replicate 4 .one)=pM:=aa
theorem BE(key:Int)(tx:ByteArray)(A:Option Addr)(n c:Nat)(E S:Int)(w:World)(hr:Rd w 1 A n ((sb tx).flatMap c8))(hc:n≤c)(htx:tx.size≤1048576)(hlaid:Laid w):RT 37 #[.int .i64 key,.slice A n c,.agg #[.int .i64 E,.int .i64 S]] w (.bool (gn key tx E S)):=by
 refine QG (Bu (KS A n c (sb tx)) QW) [.int .i64 key,.slice A n c,.int .i64 E,.int .i64 S] (Nz _ _) Tryz.func37 ?_ ?_
 ·rintro W hW s sz cells (⟨rfl,rfl,rfl⟩|⟨rfl,rfl,rfl⟩|⟨rfl,rfl,rfl⟩)
  ·exact⟨hr.aJ hW,hc⟩
  ·exact⟨hlaid.1.aJ hW,Nat.le_refl _⟩
  exact⟨hlaid.2.aJ hW,Nat.le_refl _⟩
 unfold pM
 refine QC (.int .i64 ((min E S))) (fun α=>Eq.trans (b:=Az (.int .i64 E) (.int .i64 S)) aa (JG _ _)) ?_
 refine QB (.bool (decide ((min E S)<0))) ?_
 refine QD (decide ((min E S)<0)) (fun h5=>?_) (fun h5=>?_)
 ·try simp only [cb]at h5
  exact QE (.bool false) (by unfold gn;rw [if_pos (by first|omega|(right;right;right;right;simpa using h9))])
 try simp only [cb]at h5
 refine QC (.int .i64 ((max E S))) (fun α=>Eq.trans (b:=yk (.int .i64 E) (.int .i64 S)) aa (Cg _ _)) ?_
 refine QB (.bool (decide ((max E S)≥1073741789))) ?_
 refine QD (decide ((max E S)≥1073741789)) (fun h7=>?_) (fun h7=>?_)
 ·try simp only [cb]at h7
  exact QE (.bool false) (by unfold gn;rw [if_pos (by first|omega|(right;right;right;right;simpa using h9))])
 try simp only [cb]at h7
 refine QC (.bool (Jac.fi key)) (fun α=>⟨[⟨.int .i64 key,0,[]⟩],QP,.inr (.inr (.inr (.inl ⟨rfl,_,rfl,rfl⟩))),ap rfl⟩) ?_
 refine QB (.bool (!(Jac.fi key))) ?_
 refine QD (!(Jac.fi key)) (fun h9=>?_) (fun h9=>?_)
 ·try simp only [cb]at h9
  exact QE (.bool false) (by unfold gn;rw [if_pos (by first|omega|(right;right;right;right;simpa using h9))])
 try simp only [cb]at h9
 refine QC (.int .i64 ((Jac.aN 4 S))) (fun α=>⟨[⟨.int .i64 4,0,[]⟩,⟨.int .i64 S,0,[]⟩],QQ,.inr (.inr (.inl ⟨rfl,_,_,rfl,rfl⟩)),ap rfl⟩) ?_
 refine QC (.int .i64 (-E)) (fun α=>QH (-E)) ?_
 refine QC (.int .i64 ((Jac.aN key (-E)))) (fun α=>⟨[⟨.int .i64 key,0,[]⟩,⟨.int .i64 (-E),0,[]⟩],QQ,.inr (.inr (.inl ⟨rfl,_,_,rfl,rfl⟩)),ap rfl⟩) ?_
 refine QC (.tuple #[.int .i64 ((Jac.er ((Jac.aN 4 S)) ((Jac.aN key (-E))))),.int .i64 ((Jac.gh ((Jac.aN 4 S)) ((Jac.aN key (-E)))))]) (fun α=>⟨[⟨.int .i64 ((Jac.aN 4 S)),0,[]⟩,⟨.int .i64 ((Jac.aN key (-E))),0,[]⟩],QQ,.inr (.inr (.inr (.inr (.inl ⟨rfl,_,_,rfl,rfl⟩)))),ap rfl⟩) ?_
 have hmb:=Ck (Jac.aN 4 S) (Jac.aN key (-E))
 have hvk:=Jac.dX (show Jac.fi key=true by simpa using h9)
 refine aO (Value.agg ((aG [.n ((Jac.er ((Jac.aN 4 S)) ((Jac.aN key (-E))))),.n key,.s tx]).flatMap c8).toArray) (fun α=>⟨[⟨.slice (some ⟨(α 9).b,0,none⟩) 3 3,1,FE [.n ((Jac.er ((Jac.aN 4 S)) ((Jac.aN key (-E))))),.n key,.s A n c tx]⟩],QO,.inl ⟨rfl,_,[.n ((Jac.er ((Jac.aN 4 S)) ((Jac.aN key (-E))))),.n key,.s A n c tx],rfl,ai,fun B m d t h=>by simp only [List.mem_cons,List.not_mem_nil,or_false,reduceCtorEq,false_or,mw.s.injEq]at h;obtain⟨rfl,rfl,rfl,rfl⟩:=h;exact .inl ⟨rfl,rfl,rfl⟩,by intro z hz;simp only [List.mem_cons,List.not_mem_nil,or_false]at hz;rcases hz with rfl|rfl|rfl<;>simp only [ir,Fl.fits]<;>omega,rfl⟩,ap rfl⟩) ((bg _)) ?_
 refine QC (.int .i64 ((dq dI [.n ((Jac.er ((Jac.aN 4 S)) ((Jac.aN key (-E))))),.n key,.s tx]))) (fun α=>⟨[⟨.string dI,0,[]⟩,⟨(α 10).h,1,(aG [.n ((Jac.er ((Jac.aN 4 S)) ((Jac.aN key (-E))))),.n key,.s tx]).flatMap c8⟩],⟨aa,aa,Eq.trans (b:=(⟨(α 10).h,1,[Value.agg ((aG [.n ((Jac.er ((Jac.aN 4 S)) ((Jac.aN key (-E))))),.n key,.s tx]).flatMap c8).toArray].flatMap ae⟩:SX.Arg)) (by simp [ae]) aa,trivial⟩,.inr (.inl ⟨rfl,rfl,⟨.inr (.inl ⟨rfl,rfl,rfl⟩),.inr (.inr ⟨rfl,rfl,rfl⟩)⟩,dI,_,aG [.n ((Jac.er ((Jac.aN 4 S)) ((Jac.aN key (-E))))),.n key,.s tx],rfl,aj,fe (by intro z hz;simp only [List.mem_cons,List.not_mem_nil,or_false]at hz;rcases hz with rfl|rfl|rfl<;>simp only [Fl.fits]<;>omega) ai,rfl⟩),ap rfl⟩) ?_
 refine QB (.bool ((E:Int) == (dq dI [.n ((Jac.er ((Jac.aN 4 S)) ((Jac.aN key (-E))))),.n key,.s tx]))) ?_
 exact QE (.bool ((E:Int) == (dq dI [.n ((Jac.er ((Jac.aN 4 S)) ((Jac.aN key (-E))))),.n key,.s tx]))) (by unfold gn;rw [if_neg (by rintro(q|q|q|q|q)<;>first|omega|(simp [q]at h9))];rfl)
end Go.Proofs.YtidekfgkpindbaaGreatDoor
namespace Go.Proofs
open Go.Shelf
open Go.Proofs Go.RowKit Go.Lib in
def Tryz.laysSlJ14_ren:Go.Shelf.Ren:=⟨fun|14=>123|15=>140|n=>n,fun|26=>58|22=>46|3=>3|4=>4|0=>0|9=>9|20=>20|5=>5|n=>n,fun|n=>n⟩
theorem Tryz.laysSlJ14:Go.Proofs.SlLaysJ.n14 Tryz.prog Tryz.laysSlJ14_ren:={
 mixed:=by kernel_rfl
 f14:=Tryz.func123.trans (congrArg some (by kernel_rfl))
 f15:=Tryz.func140.trans (congrArg some (by kernel_rfl))
 t0:=Tryz.underlying0
 a0:=Tryz.isAgg0
 z0:=Tryz.sizeOf0
 v0:=Tryz.zeroValue0
 t3:=Tryz.underlying3
 a3:=Tryz.isAgg3
 z3:=Tryz.sizeOf3
 v3:=Tryz.zeroValue3
 t4:=Tryz.underlying4
 a4:=Tryz.isAgg4
 z4:=Tryz.sizeOf4
 v4:=Tryz.zeroValue4
 t9:=Tryz.underlying9
 a9:=Tryz.isAgg9
 z9:=Tryz.sizeOf9
 v9:=Tryz.zeroValue9
 t20:=Tryz.underlying20
 a20:=Tryz.isAgg20
 z20:=Tryz.sizeOf20
 v20:=Tryz.zeroValue20
 t22:=Tryz.underlying46
 a22:=Tryz.isAgg46
 z22:=Tryz.sizeOf46
 v22:=Tryz.zeroValue46
 t26:=Tryz.underlying58
 a26:=Tryz.isAgg58
 z26:=Tryz.sizeOf58
 v26:=Tryz.zeroValue58
 t5:=Tryz.underlying5
 z5:=Tryz.sizeOf5
 i5:=by kernel_rfl }
open Go.RowKit Go.Lib in
theorem Tryz.bytes_Join_many(b o n c:Nat)(vs:List Value)(ls:List (List UInt8))(sv:Value)(sep:List UInt8)(w:World)(hn:ls.length=n)(h2:2≤n)(hP:Lib.PartsAt w ⟨b,o,none⟩ vs ls)(hcap:n≤c)(hS:Lib.HoldsBytes w sv sep)(hn47:n≤140737488355328)(hlen:Lib.lens ls+sep.length*(n-1)≤140737488355328) :
 Calls Tryz.prog 123 #[.slice (some ⟨b,o,none⟩) n c,sv] w fun e w'=>∃ v',e=.returned v'∧Lib.FreshBytes w.heap.size w' v' (Lib.join ls sep)∧Below w.heap.size w w':=Any.bytes_Join_many Tryz.laysSlJ14 b o n c vs ls sv sep w hn h2 hP hcap hS hn47 hlen
open Go.RowKit Go.Lib in
open Go.RowKit Go.Lib in
theorem Tryz.bytes_Join_one(b o c:Nat)(ad0:Addr)(c0:Nat)(l0:List UInt8)(sv:Value)(w:World)(hcell:w.cell? ⟨b,o,none⟩=some (.slice (some ad0) l0.length c0))(hc:∀ (i:Nat) x,l0[i]?=some x→w.cell? (ad0.add i)=some (.int .u8 (x.toNat:Int)))(h0:0<l0.length)(hs:l0.length≤140737488355328) :
 Calls Tryz.prog 123 #[.slice (some ⟨b,o,none⟩) 1 c,sv] w fun e w'=>∃ v',e=.returned v'∧Lib.FreshBytes w.heap.size w' v' l0∧Below w.heap.size w w':=Any.bytes_Join_one Tryz.laysSlJ14 b o c ad0 c0 l0 sv w hcell hc h0 hs
open Go.RowKit Go.Lib in
theorem Tryz.bytes_Join_one_empty(b o c:Nat)(p0:Option Addr)(c0:Nat)(sv:Value)(w:World)(hcell:w.cell? ⟨b,o,none⟩=some (.slice p0 0 c0)) :
 Calls Tryz.prog 123 #[.slice (some ⟨b,o,none⟩) 1 c,sv] w fun e w'=>e=.returned (.slice none 0 0)∧w'=w:=Any.bytes_Join_one_empty Tryz.laysSlJ14 b o c p0 c0 sv w hcell
end Go.Proofs
namespace Go.Proofs.YtidekfgkpindbaaGreatDoor
open Go Go.RowKit SX
abbrev Dg:=Nat→W8
def cr(f:Dg):List W8:=(List.range 32).map f
def ao(f:Dg):List Value:=(List.range 32).map fun j=>w8 (f j)
def dK(f:Dg):Value:=.agg (ao f).toArray
def Oz(d:List W8)(j:Nat):W8:=d.getD j 0
theorem eK(f:Dg):(cr f).length=32:=rfl
theorem Jn(f:Dg):(cr f).flatMap c8=ao f:=rfl
theorem bL(f:Dg):∀ u∈ao f,u.oneCell'=true:=by
 intro u hu
 obtain⟨j,_,rfl⟩:=List.mem_map.1 hu
 rfl
def bf(l:List Dg):List Value:=l.flatMap ao
theorem gr(l:List Dg):(bf l).length=l.length*32:=SX.aL (f:=ao) al l
theorem F0{d:List W8}(h:d.length=32):cr (Oz d)=d:=by
 apply List.ext_getElem
 ·rw [eK,h]
 intro i h1 h2
 simp only [cr,Oz,List.getElem_map,List.getElem_range,List.getD_eq_getElem?_getD,List.getElem?_eq_getElem h2,Option.getD_some]
theorem Lq{d:List W8}(h:d.length=32):Value.agg (d.flatMap c8).toArray=dK (Oz d):=by
 conv=>lhs;rw [← F0 h]
 rfl
def bP(l:List W8):Dg:=Oz (dv l)
theorem vz(l:List W8):Value.agg ((dv l).flatMap c8).toArray=dK (bP l):=Lq rfl
theorem qH(l:List W8):cr (bP l)=dv l:=F0 rfl
def iX:ByteArray:=⟨#[108,101,97,102]⟩
def pn:ByteArray:=⟨#[110,111,100,101]⟩
def bI(b:List W8):List W8:=dv (sb iX)++b
def gx(x y:Dg):List W8:=dv (sb pn)++(cr x++cr y)
def BC(l:List W8):List UInt8:=l.map UInt8.ofBitVec
theorem oa(l:List W8):(BC l).length=l.length:=by simp [BC]
theorem Mf{l:List W8}{i:Nat}{x:UInt8}(h:(BC l)[i]?=some x):∃ b,l[i]?=some b∧(x.toNat:Int)=(b.toNat:Int):=by
 unfold BC at h
 rw [List.getElem?_map,Option.map_eq_some_iff]at h
 obtain⟨b,h1,rfl⟩:=h
 exact⟨b,h1,rfl⟩
theorem Kp{l:List W8}{i:Nat}{b:W8}(h:l[i]?=some b):(l.flatMap c8)[i]?=some (w8 b):=by rw [B3,List.getElem?_map,h];rfl
theorem holds_of{w:World}{v:Value}{l:List W8}(h:SX.Arg.rd w ⟨v,1,l.flatMap c8⟩):Lib.HoldsBytes w v (BC l):=by
 unfold SX.Arg.rd at h
 split at h
 ·rename_i A n c hv
  have hv:v=.slice A n c:=hv
  subst hv
  obtain⟨h1,h2⟩:=h.1
  rw [SX.aL (f:=c8) aQ,Nat.mul_one,Nat.mul_one]at h1
  refine⟨A,c,by rw [oa,h1],fun hA=>?_,fun a ha i x hx=>?_⟩
  ·rcases Nat.eq_zero_or_pos n with h0|h0
   ·rw [h0]at h1;rw [List.eq_nil_of_length_eq_zero h1];rfl
   obtain⟨ad,h3,_⟩:=h2 h0
   rw [hA]at h3;cases h3
  obtain⟨b,hb,hx2⟩:=Mf hx
  have hn:0<n:=by have:=(List.getElem?_eq_some_iff.1 hb).1;omega
  obtain⟨ad,h3,_,h4⟩:=h2 hn
  rw [ha]at h3;cases h3
  rw [h4 i _ (Kp hb),hx2];rfl
 cases h
theorem I2{W:World}{a:Addr}{v:Value}(h:W.cell? a=some v):a.block<W.heap.size:=by
 unfold World.cell? at h
 split at h
 ·rename_i c t f hc
  exact(Array.getElem?_eq_some_iff.1 hc).1
 cases h
theorem tW{w w':World}{v:Value}{l:List W8}(h:Lib.FreshBytes w.heap.size w' v (BC l)):aH w w' [] v 1 (l.flatMap c8):=by
 obtain⟨g,cap,zs,rfl,hg,hl,hm,hz,hb,hby,hc,hf⟩:=h
 rw [oa]at hl hby ⊢
 have hlen:(l.flatMap c8).length=l.length*1:=SX.aL (f:=c8) aQ l
 refine⟨⟨_,_,_,rfl,hl⟩,⟨⟨hlen,fun hn=>?_⟩,hl⟩,.inl fun ad n c e hn=>by cases e;exact hg⟩
 have hcell:∀ j u,(l.flatMap c8)[j]?=some u→w'.cell? ((⟨g,0,none⟩:Addr).add j)=some u:=fun j u hu=>by
  have hj:=(List.getElem?_eq_some_iff.1 hu).1
  rw [hlen,Nat.mul_one]at hj
  rw [Addr.add_lit,Nat.zero_add,hc j ab]
  have h1:(Lib.bytesOf (zs.take l.length))[j]?=(BC l)[j]?:=by rw [hby]
  have hlj:=List.getElem?_eq_getElem hj
  have hzj:zs[j]?=some (zs[j]'ab):=List.getElem?_eq_getElem _
  unfold Lib.bytesOf BC at h1
  rw [List.getElem?_map,List.getElem?_map,List.getElem?_take,if_pos hj,hzj,hlj]at h1
  simp only [Option.map_some,Option.some.injEq]at h1
  have hz2:=hb _ (List.mem_of_getElem? hzj)
  rw [Kp hlj]at hu
  cases hu
  rw [List.getD_eq_getElem?_getD,hzj,Option.getD_some]
  have h2:(UInt8.ofNat (zs[j]'ab).toNat).toNat=(UInt8.ofBitVec l[j]).toNat:=by rw [h1]
  have h3:(UInt8.ofNat (zs[j]'ab).toNat).toNat=(zs[j]'ab).toNat:=by
   rw [UInt8.toNat_ofNat'];omega
  have h4:(UInt8.ofBitVec l[j]).toNat=(l[j]).toNat:=rfl
  rw [h3,h4]at h2
  show some (Value.int .u8 _)=some (Value.int .u8 _)
  congr 2;omega
 obtain⟨u,hu⟩:∃ u,(l.flatMap c8)[0]?=some u:=⟨_,List.getElem?_eq_getElem ab⟩
 exact⟨_,rfl,I2 (hcell 0 u hu),hcell⟩
abbrev Pb:=Value×List W8
theorem Gt(ps:List Pb)(b o n c:Nat)(w:World)(hr:Rd w 1 (some ⟨b,o,none⟩) n (ps.map (·.1)))(hc:n≤c)(hp:∀ p∈ps,SX.Arg.rd w ⟨p.1,1,p.2.flatMap c8⟩)(h1:1≤ps.length)(h2:ps.length≤1048576)(hlen:(ps.map (·.2.length)).sum≤140737488355328) :
 RS 123 #[.slice (some ⟨b,o,none⟩) n c,.slice none 0 0] w 1 ((ps.flatMap (·.2)).flatMap c8):=by
 have hn:ps.length=n:=by have:=hr.1;simpa using this
 have hcell:∀ (i:Nat) (v:Value),(ps.map (·.1))[i]?=some v→w.cell? ((⟨b,o,none⟩:Addr).add i)=some v:=fun i v hv=>by
  have h0:0<n:=by have:=(List.getElem?_eq_some_iff.1 hv).1;simp at this;omega
  obtain⟨ad,e,_,h⟩:=hr.2 h0
  cases e
  exact h i v hv
 match ps,h1,hr,hp,hn,hcell,hlen with
 | [p],_,hr,hp,hn,hcell,hlen =>
  simp only [List.length_singleton]at hn
  subst hn
  obtain⟨A,d,hv,hA,hby⟩:=holds_of (hp p (List.mem_singleton.2 rfl))
  have hc0:=hcell 0 p.1 rfl
  rw [Addr.add_lit,Nat.add_zero,hv]at hc0
  rcases hl:p.2 with _|⟨x,l⟩
  ·rw [hl]at hc0
   refine(Tryz.bytes_Join_one_empty b o c A d (.slice none 0 0) w hc0).mono fun e w' h=>?_
   obtain⟨rfl,rfl⟩:=h
   refine⟨Below.refl _ _,_,rfl,?_⟩
   simp only [List.flatMap_cons,List.flatMap_nil,hl,List.append_nil]
   exact aH.nil
  have h0:0<(BC p.2).length:=by rw [oa,hl];simp
  obtain⟨ad,rfl⟩:∃ ad,A=some ad:=by
   cases A with
   | some ad=>exact⟨ad,rfl⟩
   | none=>rw [hA rfl]at h0;cases h0
  refine(Tryz.bytes_Join_one b o c ad d (BC p.2) (.slice none 0 0) w hc0 (fun i x hx=>hby ad rfl i x hx) h0 (by rw [oa];simpa using hlen)).mono fun e w' h=>?_
  obtain⟨v',rfl,hf,hb⟩:=h
  refine⟨hb,_,rfl,?_⟩
  simp only [List.flatMap_cons,List.flatMap_nil,List.append_nil]
  rw [← List.append_nil p.2]at hf ⊢
  simpa using tW (w:=w) hf
 | p::q::r,_,hr,hp,hn,hcell,hlen =>
  have hls:∀ ps:List Pb,Lib.lens (ps.map fun p=>BC p.2)=(ps.map (·.2.length)).sum:=fun ps=>by
   unfold Lib.lens
   rw [List.map_map]
   congr 1
   exact List.map_congr_left fun p _=>oa p.2
  have hj:Lib.join ((p::q::r).map fun p=>BC p.2) []=BC ((p::q::r).flatMap (·.2)):=by
   rw [List.map_cons,Lib.join_cons]
   unfold Lib.joinTail
   simp [BC,List.flatMap_def,List.map_flatten,List.map_map,Function.comp_def]
  refine(Tryz.bytes_Join_many b o n c ((p::q::r).map (·.1)) ((p::q::r).map fun p=>BC p.2) (.slice none 0 0) [] w (by rw [List.length_map];exact hn) (by rw [← hn];simp) ⟨ai,hcell,fun i v l hv hl=>?_⟩ hc ⟨none,0,rfl,fun _=>rfl,nofun⟩ ab (by rw [hls];simpa using hlen)).mono fun e w' h=>?_
  ·rw [List.getElem?_map,Option.map_eq_some_iff]at hv hl
   obtain⟨z,hz,rfl⟩:=hv
   obtain⟨z',hz',rfl⟩:=hl
   rw [hz]at hz';cases hz'
   exact holds_of (hp z (List.mem_of_getElem? hz))
  obtain⟨v',rfl,hf,hb⟩:=h
  rw [hj]at hf
  exact⟨hb,_,rfl,tW hf⟩
namespace SX
section
variable {C:Cx}{ρ:List Value}{α:Nat→AV}{sz:Nat}{y:V}
theorem kf{xs:List Value}{cs:List V}(h:(ah ρ α cs).flatMap ae=xs):oN C ρ α sz (.row sz cs) y xs:=⟨⟨y.den ρ α,sz,xs⟩,⟨by rw [← h],trivial⟩,rfl,rfl⟩
theorem da(h:Value)(sz:Nat)(xs:List Value):(⟨h,sz,xs⟩:Arg)=⟨h,sz,xs++[]⟩:=by rw [List.append_nil]
theorem vg{β:Type}{f:β→List Value}(hf:∀ a,(f a).length=sz)(h1:∀ a,∀ u∈f a,u.oneCell'=true)(h0:0<sz){l1 l2:List β}{cc:V}{by':Nat}{src:Rw}(hc:ae (cc.den ρ α)=l1.flatMap f)(hs:oN C ρ α sz src y (l2.flatMap f))(hne:l2≠[])(hb:(l1.length+l2.length)*by'≤140737488355328)(hl:l1.length+l2.length≤140737488355328):cZ.rel C ρ α (.apo sz by' src) [cc,y] (.agg ((l1++l2).flatMap f).toArray):=by
 obtain⟨x,ha,hz,hx⟩:=hs
 have e:((ae (cc.den ρ α)).length+x.cells.length) / sz=l1.length+l2.length:=by
  rw [hx,hc,aL hf,aL hf,← Nat.add_mul,Nat.mul_div_cancel _ h0]
 have one:∀ l:List β,∀ u∈l.flatMap f,u.oneCell'=true:=fun l u hu=>by
  obtain⟨a,_,h⟩:=List.mem_flatMap.1 hu
  exact h1 a u h
 refine⟨x,ha,hz,fun u hu=>one l2 u (by rw [← hx];exact hu),fun he=>?_,by rw [hc];exact one l1,by rw [e];exact hb,by rw [e];exact hl,by rw [hx,hc,List.flatMap_append]⟩
 rw [hx]at he
 have:=congrArg List.length he
 rw [aL hf,List.length_nil]at this
 rcases Nat.mul_eq_zero.1 this with h|h
 ·exact hne (List.eq_nil_of_length_eq_zero h)
 omega
end
end SX
def Ms(K:QV)(f:FuncId)(xs:List SX.Arg)(v:Value):Prop:=f=123∧∃ (b o n c:Nat) (ps:List Pb),xs=[⟨.slice (some ⟨b,o,none⟩) n c,1,ps.map (·.1)⟩,⟨.slice none 0 0,1,[]⟩]∧(∀ p∈ps,K p.1 1 (p.2.flatMap c8))∧1≤ps.length∧ps.length≤1048576∧(ps.flatMap (·.2)).length≤140737488355328∧v=.agg ((ps.flatMap (·.2)).flatMap c8).toArray
def NY:FuncId→Option SX.Sh:=fun f=>if f=78 then some (.ag 32)else if f=123 then some (.sl 1)else none
noncomputable def MS(K A:QV):SX.Cx:={ P:=Tryz.prog,R:=fun K f xs v=>zv K f xs v∨Ms K f xs v,shp:=NY,K:=K,A:=A,trm:=true }
theorem Pj(K A:QV):(MS K A).Ok:=by
 refine SX.Cx.b6 al ?_
 intro K f xs v W hR hrd hKf
 rcases hR with hR|⟨rfl,b,o,n,c,ps,rfl,hp,h1,h2,hl,rfl⟩
 ·have hf:=hR.1
  exact(iH hR hrd hKf).mono fun e w' h=>ay (by subst hf;rfl) h
 refine Calls.mono ?_ fun e w' h=>aH.tc rfl h
 have hr:=hrd ⟨.slice (some ⟨b,o,none⟩) n c,1,ps.map (·.1)⟩ ai
 exact Gt ps b o n c W hr.1 hr.2 (fun p hpm=>hKf _ _ _ (hp p hpm)) h1 h2 (by rw [List.length_flatMap]at hl;exact hl)
def KT(b o n c:Nat)(ps:List Pb)(s:Value)(z:Nat)(xs:List Value):Prop:=(s=.slice (some ⟨b,o,none⟩) n c∧z=1∧xs=ps.map (·.1))∨(∃ p∈ps,s=p.1∧z=1∧xs=p.2.flatMap c8)∨(s=.slice (some ⟨0,0,none⟩) 1 1∧z=8∧xs=cP.cells)∨(s=.slice (some ⟨1,0,none⟩) 64 64∧z=1∧xs=ct.flatMap zV)
def sB:SX.Tree :=
(.df .s2b [(.q 0)] .any
(.df (.call 78 [(.row 1 [(.q 2)])]) [(.row 0)] (.ag 32)
(.df (.call 123 [(.ext 1),(.own 1 [])]) [(.q 1),(.k (.slice none 0 0))] (.sl 1)
(.df (.apo 1 1 (.row 1 [(.q 4)])) [(.a (QJ 3 0 32)),(.row 4)] .any
(.ret (.row 5) [none,none,none,none,none,(some ⟨[(.q 5)],5,(.row 1)⟩)] [])))))
def zM:List SX.V:=[.x 0 [],.x 1 []]
theorem EL(K A:QV):QU (MS K A) ⟨fun f=>true,[],2,100⟩ 97 Tryz.f97 zM [.one,.one]=sB:=aa
theorem Ir(tag:ByteArray)(ps:List Pb)(b o n c:Nat)(w:World)(htag:tag.size<1073741824)(hr:Rd w 1 (some ⟨b,o,none⟩) n (ps.map (·.1)))(hc:n≤c)(hp:∀ p∈ps,SX.Arg.rd w ⟨p.1,1,p.2.flatMap c8⟩)(h1:1≤ps.length)(h2:ps.length≤1048576)(hlen:(ps.flatMap (·.2)).length≤70368744177664)(hne:ps.flatMap (·.2)≠[])(hlaid:Laid w) :
 RS 97 #[.string tag,.slice (some ⟨b,o,none⟩) n c] w 1 ((dv (sb tag)++ps.flatMap (·.2)).flatMap c8):=by
 refine QG (EL (KT b o n c ps) (KT b o n c ps)) [.string tag,.slice (some ⟨b,o,none⟩) n c] (Pj _ _) Tryz.func97 ?_ ?_
 ·rintro W hW s z xs (⟨rfl,rfl,rfl⟩|⟨p,hpm,rfl,rfl,rfl⟩|⟨rfl,rfl,rfl⟩|⟨rfl,rfl,rfl⟩)
  ·exact⟨hr.aJ hW,hc⟩
  ·have h:=hp p hpm
   unfold SX.Arg.rd at h ⊢
   split at h
   ·exact⟨h.1.aJ hW,h.2⟩
   cases h
  ·exact⟨hlaid.1.aJ hW,Nat.le_refl _⟩
  exact⟨hlaid.2.aJ hW,Nat.le_refl _⟩
 have hL:bn (KT b o n c ps):=⟨.inr (.inr (.inl ⟨rfl,rfl,rfl⟩)),.inr (.inr (.inr ⟨rfl,rfl,rfl⟩))⟩
 have hin:(KT b o n c ps) (.slice (some ⟨b,o,none⟩) n c) 1 (ps.map (·.1)):=.inl ⟨rfl,rfl,rfl⟩
 unfold sB
 refine QC (.agg ((sb tag).flatMap c8).toArray) (fun α=>qn aa) ?_
 refine QC (dK (bP (sb tag))) (fun α=>by rw [← vz];exact⟨[⟨(α 0).h,1,(sb tag).flatMap c8⟩],⟨Eq.trans (da (α 0).h 1 ((sb tag).flatMap c8)) aa,trivial⟩,.inl ⟨rfl,hL,_,_,rfl,by rw [lg];omega,rfl⟩,ap rfl⟩) ?_
 have hD:=qH (sb tag)
 have hXl:=li (sb tag)
 generalize bP (sb tag)=D at *
 generalize dv (sb tag)=X at *
 refine aO (.agg ((ps.flatMap (·.2)).flatMap c8).toArray) (fun α=>⟨[⟨.slice (some ⟨b,o,none⟩) n c,1,ps.map (·.1)⟩,⟨.slice none 0 0,1,[]⟩],⟨aa,rfl,cast aa hin,aa,trivial⟩,.inr ⟨rfl,b,o,n,c,ps,rfl,fun p hpm=>.inr (.inl ⟨p,hpm,rfl,rfl,rfl⟩),h1,h2,ab,rfl⟩,ap rfl⟩) (bg _) ?_
 refine aO (.agg ((X++ps.flatMap (·.2)).flatMap c8).toArray) (fun α=>vg (f:=c8) aQ w6 aj (l1:=X) (l2:=ps.flatMap (·.2)) (Eq.trans (b:=ao D) aa (by rw [← Jn,hD])) (kf (Eq.trans (b:=(ps.flatMap (·.2)).flatMap c8++[]) aa (List.append_nil _))) hne (by rw [hXl];omega) (by rw [hXl];omega)) rfl ?_
 exact aK fun α W _ hrow hS=>⟨hS.below,_,aa,aH.row hS (n:=5) (b:=(⟨[(.x 5 [])],5,(.row 1)⟩:ak)) aa rfl (hrow 5 _ aa) (Eq.trans (b:=(X++ps.flatMap (·.2)).flatMap c8++[]) aa (List.append_nil _))⟩
theorem qe(l:List W8):(bI l).length=32+l.length:=by unfold bI;rw [List.length_append,li]
theorem j7(x y:Dg):(gx x y).length=96:=by unfold gx;rw [List.length_append,li,List.length_append,eK,eK]
theorem jb{K:QV}(hL:bn K){u:Value}{l:List W8}(h:l.length<1152921504606846976):zv K 78 [⟨u,1,l.flatMap c8⟩] (dK (bP l)):=⟨rfl,hL,u,l,rfl,h,(vz l).symm⟩
def Fy(K:QV)(f:FuncId)(xs:List SX.Arg)(v:Value):Prop:=f=97∧bn K∧∃ (tag:ByteArray) (b o n c:Nat) (ps:List Pb),xs=[⟨.string tag,0,[]⟩,⟨.slice (some ⟨b,o,none⟩) n c,1,ps.map (·.1)⟩]∧(∀ p∈ps,K p.1 1 (p.2.flatMap c8))∧tag.size<1073741824∧1≤ps.length∧ps.length≤1048576∧(ps.flatMap (·.2)).length≤70368744177664∧ps.flatMap (·.2)≠[]∧v=.agg ((dv (sb tag)++ps.flatMap (·.2)).flatMap c8).toArray
theorem sf{K:QV}{f:FuncId}{xs:List SX.Arg}{v:Value}{W:World}{C:SX.Cx}(h:Fy K f xs v)(hs:C.sh 97=.sl 1)(hrd:∀ x∈xs,x.rd W)(hK:∀ s sz cells,K s sz cells→SX.Arg.rd W ⟨s,sz,cells⟩) :
 Calls Tryz.prog f (xs.map SX.Arg.v).toArray W fun e w'=>Below W.heap.size W w'∧∃ hdr,e=.returned ((C.sh f).fill hdr v)∧∀ p z,(p,z)∈(C.sh f).ti []→mX C f xs W w' hdr z (ae (p.foldl SX.comp v)):=by
 obtain⟨rfl,hL,tag,b,o,n,c,ps,rfl,hp,ht,h1,h2,hl,hne,rfl⟩:=h
 refine Calls.mono ?_ fun e w' h=>aH.tc hs h
 have hr:=hrd ⟨.slice (some ⟨b,o,none⟩) n c,1,ps.map (·.1)⟩ ai
 exact Ir tag ps b o n c W ht hr.1 hr.2 (fun p hpm=>hK _ _ _ (hp p hpm)) h1 h2 hl hne (bF hL hK)
def NZ:FuncId→Option SX.Sh:=fun f=>if f=78 then some (.ag 32)else if f=97 then some (.sl 1)else none
noncomputable def K7(K A:QV):SX.Cx:={ P:=Tryz.prog,R:=fun K f xs v=>zv K f xs v∨Fy K f xs v,shp:=NZ,K:=K,A:=A,trm:=true }
theorem Nw(K A:QV):(K7 K A).Ok:=by
 refine SX.Cx.b6 al ?_
 intro K f xs v W hR hrd hKf
 rcases hR with hR|hR
 ·have hf:=hR.1
  exact(iH hR hrd hKf).mono fun e w' h=>ay (by subst hf;rfl) h
 exact sf hR rfl hrd hKf
def sw:SX.Tree :=
(.df (.call 97 [.no,(.own 1 [(.q 0)])]) [(.k (.string ⟨#[108,101,97,102]⟩)),(.sl 1 0 1 1)] (.sl 1)
(.df (.call 78 [(.row 1 [(.q 1)])]) [(.row 2)] (.ag 32)
(.ret (.a (QJ 2 0 32)) [] [])))
def zJ:List SX.V:=[.x 0 []]
theorem EI(K A:QV):QU (K7 K A) ⟨fun f=>true,[],0,100⟩ 81 Tryz.f81 zJ [.one]=sw:=aa
theorem vK(l:List W8)(A:Option Addr)(n c:Nat)(w:World)(hr:Rd w 1 A n (l.flatMap c8))(hc:n≤c)(hne:l≠[])(hl:l.length≤17592186044416)(hlaid:Laid w):RT 81 #[.slice A n c] w (dK (bP (bI l))):=by
 refine QG (EI (KS A n c l) (KS A n c l)) [.slice A n c] (Nw _ _) Tryz.func81 ?_ ?_
 ·rintro W hW v z xs (⟨rfl,rfl,rfl⟩|⟨rfl,rfl,rfl⟩|⟨rfl,rfl,rfl⟩)
  ·exact⟨hr.aJ hW,hc⟩
  ·exact⟨hlaid.1.aJ hW,Nat.le_refl _⟩
  exact⟨hlaid.2.aJ hW,Nat.le_refl _⟩
 have hL:bn (KS A n c l):=⟨.inr (.inl ⟨rfl,rfl,rfl⟩),.inr (.inr ⟨rfl,rfl,rfl⟩)⟩
 have hX:=qe l
 have hXe:bI l=dv (sb iX)++[((.slice A n c:Value),l)].flatMap (·.2):=by simp only [bI,List.flatMap_cons,List.flatMap_nil,List.append_nil]
 generalize bI l=X at *
 unfold sw
 refine aO (.agg (X.flatMap c8).toArray) (fun α=>⟨[⟨.string iX,0,[]⟩,⟨.slice (some ⟨(α 1).b,0,none⟩) 1 1,1,[.slice A n c]⟩],⟨aa,aa,aa,trivial⟩,.inr ⟨rfl,hL,iX,(α 1).b,0,1,1,[(.slice A n c,l)],rfl,(fun p hp=>by rw [List.mem_singleton.1 hp];exact .inl ⟨rfl,rfl,rfl⟩),aj,ai,ai,by simp only [List.flatMap_cons,List.flatMap_nil,List.append_nil];omega,af hne,by rw [hXe]⟩,ap rfl⟩) (bg _) ?_
 refine QC (dK (bP X)) (fun α=>⟨[⟨(α 2).h,1,X.flatMap c8⟩],⟨Eq.trans (da (α 2).h 1 (X.flatMap c8)) aa,trivial⟩,.inl (jb hL ab),ap rfl⟩) ?_
 exact QE (dK (bP X)) rfl
def sy:SX.Tree :=
(.df (.callg 97 [.no,(.own 1 [(.sl 0 0 32 32),(.sl 1 0 32 32)])] [(.own 1 (QJ 0 0 32)),(.own 1 (QJ 1 0 32))]) [(.k (.string ⟨#[110,111,100,101]⟩)),(.sl 4 0 2 2),(.sl 0 0 32 32),(.sl 1 0 32 32)] (.sl 1)
(.ret (.row 5) [none,none,none,none,none,(some ⟨[(.q 2)],0,(.ext 1)⟩)] []))
def zK:List SX.V:=[.a ((List.range 32).map fun j=>.x 0 [j]),.a ((List.range 32).map fun j=>.x 1 [j])]
theorem EJ(K A:QV):QU (K7 K A) ⟨fun f=>true,[],2,100⟩ 99 Tryz.f99 zK [.ag 32,.ag 32]=sy:=aa
def OD(s:Value)(z:Nat)(xs:List Value):Prop:=(s=.slice (some ⟨0,0,none⟩) 1 1∧z=8∧xs=cP.cells)∨(s=.slice (some ⟨1,0,none⟩) 64 64∧z=1∧xs=ct.flatMap zV)
theorem xd:bn OD:=⟨.inl ⟨rfl,rfl,rfl⟩,.inr ⟨rfl,rfl,rfl⟩⟩
theorem Mt{w W:World}(hlaid:Laid w)(hW:bp [] w W):∀ s z xs,OD s z xs→SX.Arg.rd W ⟨s,z,xs⟩:=by
 rintro v z xs (⟨rfl,rfl,rfl⟩|⟨rfl,rfl,rfl⟩)
 ·exact⟨hlaid.1.aJ hW,Nat.le_refl _⟩
 exact⟨hlaid.2.aJ hW,Nat.le_refl _⟩
theorem GM(x y:Dg)(w:World)(hlaid:Laid w):RS 99 #[dK x,dK y] w 1 ((gx x y).flatMap c8):=by
 refine QG (EJ OD QW) [dK x,dK y] (Nw _ _) Tryz.func99 ?_ ?_
 ·exact fun W hW=>Mt hlaid hW
 have hXe:∀ u v:Value,gx x y=dv (sb pn)++[((u:Value),cr x),(v,cr y)].flatMap (·.2):=fun u v=>by simp only [gx,List.flatMap_cons,List.flatMap_nil,List.append_nil]
 generalize gx x y=X at *
 unfold sy
 refine aO (.agg (X.flatMap c8).toArray) (fun α=>⟨[⟨.string pn,0,[]⟩,⟨.slice (some ⟨(α 4).b,0,none⟩) 2 2,1,[.slice (some ⟨(α 0).b,0,none⟩) 32 32,.slice (some ⟨(α 1).b,0,none⟩) 32 32]⟩],[⟨.slice (some ⟨(α 0).b,0,none⟩) 32 32,1,ao x⟩,⟨.slice (some ⟨(α 1).b,0,none⟩) 32 32,1,ao y⟩],⟨aa,aa,aa,trivial⟩,QP,.inr ⟨rfl,⟨.inl xd.1,.inl xd.2⟩,pn,(α 4).b,0,2,2,[(.slice (some ⟨(α 0).b,0,none⟩) 32 32,cr x),(.slice (some ⟨(α 1).b,0,none⟩) 32 32,cr y)],rfl,(fun p hp=>by
  rcases List.mem_cons.1 hp with rfl|hp
  ·exact .inr (List.mem_cons_self ..)
  rw [List.mem_singleton.1 hp];exact .inr (List.mem_cons_of_mem _ (List.mem_singleton.2 rfl))),aj,ai,ai,by simp [eK],by simp [cr],by rw [hXe]⟩,ap rfl⟩) (bg _) ?_
 exact aK fun α W _ hrow hS=>⟨hS.below,_,aa,aH.vD hS (n:=5) (b:=(⟨[(.x 2 [])],0,(.ext 1)⟩:ak)) aa rfl (hrow 5 _ aa) (Eq.trans (b:=X.flatMap c8++[]) aa (List.append_nil _)) (fun W2 s sz cells h=>h.elim) (fun B s sz cells h=>h.elim)⟩
def oh:List Dg→List Dg
 | x::y::r=>bP (gx x y)::oh r
 | l=>l
theorem ob:∀ l:List Dg,(oh l).length=(l.length+1) / 2
 | x::y::r=>by unfold oh;rw [List.length_cons,ob r,List.length_cons,List.length_cons];omega
 | [x]=>by simp [oh]
 | []=>by simp [oh]
theorem sL(x y:Dg)(r:List Dg):oh (x::y::r)=bP (gx x y)::oh r:=by conv=>lhs;unfold oh
def Fx(K:QV)(f:FuncId)(xs:List SX.Arg)(v:Value):Prop:=f=99∧bn K∧∃ x y:Dg,xs=[⟨dK x,0,[]⟩,⟨dK y,0,[]⟩]∧v=.agg ((gx x y).flatMap c8).toArray
theorem rl{K:QV}{f:FuncId}{xs:List SX.Arg}{v:Value}{W:World}{C:SX.Cx}(h:Fx K f xs v)(hs:C.sh 99=.sl 1)(hK:∀ s sz cells,K s sz cells→SX.Arg.rd W ⟨s,sz,cells⟩) :
 Calls Tryz.prog f (xs.map SX.Arg.v).toArray W fun e w'=>Below W.heap.size W w'∧∃ hdr,e=.returned ((C.sh f).fill hdr v)∧∀ p z,(p,z)∈(C.sh f).ti []→mX C f xs W w' hdr z (ae (p.foldl SX.comp v)):=by
 obtain⟨rfl,hL,x,y,rfl,rfl⟩:=h
 exact Calls.mono (GM x y W (bF hL hK)) fun e w' h=>aH.tc hs h
def N1:FuncId→Option SX.Sh:=fun f=>if f=78 then some (.ag 32)else if f=99 then some (.sl 1)else none
noncomputable def MT(K A:QV):SX.Cx:={ P:=Tryz.prog,R:=fun K f xs v=>zv K f xs v∨Fx K f xs v,shp:=N1,K:=K,A:=A,trm:=true }
theorem Pk(K A:QV):(MT K A).Ok:=by
 refine SX.Cx.b6 al ?_
 intro K f xs v W hR hrd hKf
 rcases hR with hR|hR
 ·have hf:=hR.1
  exact(iH hR hrd hKf).mono fun e w' h=>ay (by subst hf;rfl) h
 exact rl hR rfl hKf
def zk:SX.Tree :=
(.loop [(.q 0),(.cat [])] [.one,.any]
(.df (.len false) [(.q 1)] .one
(.df (.bin .gtr 3) [(.q 3),(.i 1)] .one
(.br 4 []
(.df .bnd [(.q 1),(.i 0)] .one
(.df (.elems 32 0 32) [(.q 1),(.i 0)] (.ag 32)
(.df .bnd [(.q 1),(.i 1)] .one
(.df (.elems 32 0 32) [(.q 1),(.i 1)] (.ag 32)
(.df (.call 99 [.no,.no]) [(.a (QJ 6 0 32)),(.a (QJ 8 0 32))] (.sl 1)
(.df (.call 78 [(.row 1 [(.q 9)])]) [(.row 10)] (.ag 32)
(.df (.dN 32 32 (.own 32 (QJ 10 0 32))) [(.cat [(.q 2)]),(.sl 12 0 1 1)] .any
(.df (.slc false 32 true false false) [(.q 1),(.i 2)] .one
(.again 0 [(.q 12),(.cat [(.q 2),(.q 11)])])))))))))
(.df (.dN 32 32 (.ext 32)) [(.cat [(.q 2)]),(.q 1)] .any
(.ret (.row 3) [none,none,none,(some ⟨[(.q 2),(.q 5)],27,(.row 32)⟩)] []))))))
def FH:List SX.V:=[.x 0 []]
theorem J5(K A:QV):QU (MT K A) ⟨fun f=>f != 82,[⟨82,1,[(.s 0,.one),(.s 2,.row 32 27)]⟩],2,100⟩ 82 Tryz.f82 FH [.one]=zk:=aa
def KW(w:World)(v:Value)(z:Nat)(xs:List Value):Prop:=∀ W,bp [] w W→SX.Arg.rd W ⟨v,z,xs⟩
theorem dj{w:World}(h:Laid w):bn (KW w):=⟨fun W hW=>⟨h.1.aJ hW,Nat.le_refl _⟩,fun W hW=>⟨h.2.aJ hW,Nat.le_refl _⟩⟩
theorem Mh(ds:List Dg)(A:Option Addr)(n c:Nat)(w:World)(hr:Rd w 32 A n (bf ds))(hc:n≤c)(hl:ds.length≤1000000)(hlaid:Laid w):Calls Tryz.prog 82 #[.slice A n c] w fun e w'=>∃ h' b' tl',e=.returned h'∧Below w.heap.size w w'∧iP 32 h' b' 27 (bf (oh ds)) tl' w'∧w.heap.size≤b':=by
 refine QG (J5 (KW w) QW) [.slice A n c] (Pk _ _) Tryz.func82 ?_ ?_
 ·exact fun W hW v z xs h=>h W hW
 have hL:bn (KW w):=dj hlaid
 unfold zk
 refine ck (fun xs=>∃ (A:Option Addr) (n c:Nat) (l acc:List Dg),xs=[.slice A n c,.agg (bf acc).toArray]∧Rd w 32 A n (bf l)∧n≤c∧l.length=n∧acc++oh l=oh ds∧acc.length+l.length≤ds.length) (fun xs=>match xs with|.slice _ n _::_=>n|_=>0) (fun α=>⟨A,n,c,ds,[],aa,hr,hc,by have:=hr.1;rw [gr]at this;omega,rfl,ai⟩) ?_
 rintro xs-⟨A1,n1,c1,l,acc,rfl,hr1,hc1,hn1,hI,hsz⟩
 have hK1:KW w (.slice A1 n1 c1) 32 (bf l):=fun W hW=>⟨hr1.aJ hW,hc1⟩
 have hA1:=SX.rd_some hr1
 refine QB (.int .i64 (n1:Int)) ?_
 refine QF (.bool (decide (1<n1))) (eN n1 1) ?_
 refine QD (decide (1<n1)) (fun h1=>?_) (fun h1=>?_)
 ·have h1:1<n1:=af h1
  rcases l with _|⟨x,_|⟨y,r⟩⟩
  ·simp at hn1;omega
  ·simp at hn1;omega
  refine QM A1 n1 c1 0 hA1 ab ?_
  refine QN (f:=ao) (l:=x::y::r) (dK x) A1 n1 c1 0 x hA1 ab (cast aa hK1) rfl ?_
  refine QM A1 n1 c1 1 hA1 ab ?_
  refine QN (f:=ao) (l:=x::y::r) (dK y) A1 n1 c1 1 y hA1 ab (cast aa hK1) rfl ?_
  have hX:=j7 x y
  have hI2:(acc++[bP (gx x y)])++oh r=oh ds:=by rw [← hI,sL];simp
  refine aO (.agg ((gx x y).flatMap c8).toArray) (fun α=>⟨[⟨dK x,0,[]⟩,⟨dK y,0,[]⟩],QQ,.inr ⟨rfl,hL,x,y,rfl,rfl⟩,ap rfl⟩) (bg _) ?_
  generalize gx x y=X at *
  refine QC (dK (bP X)) (fun α=>⟨[⟨(α 10).h,1,X.flatMap c8⟩],⟨Eq.trans (da (α 10).h 1 (X.flatMap c8)) aa,trivial⟩,.inl (jb hL ab),ap rfl⟩) ?_
  generalize bP X=D at *
  simp only [List.length_cons]at hn1 hsz
  refine QC (.agg ([D].flatMap ao).toArray) (fun α=>az (f:=ao) (l1:=acc) (l2:=[D]) al bL aj (bz (j:=2) aa) ⟨⟨.slice (some ⟨(α 12).b,0,none⟩) 1 1,32,[D].flatMap ao⟩,QO,rfl,rfl⟩ aw aw) ?_
  refine QC (bo A1 32 2 n1 c1) (fun α=>du (A:=A1) (n:=n1) (c:=c1) (k:=2) aa aa ab) ?_
  exact bW rfl (fun α=>⟨_,n1-2,c1-2,r,acc++[D],Eq.trans (b:=[bo A1 32 2 n1 c1,.agg ([Value.agg (bf acc).toArray,.agg ([D].flatMap ao).toArray].flatMap ae).toArray]) aa (by simp [bo,ae,bf]),hr1.cut ab hc1,ab,ab,hI2,aw⟩) (fun α=>cast aa (show n1-2<n1 by omega))
 have h1:¬ 1<n1:=af h1
 have hup:oh l=l:=by
  rcases l with _|⟨x,_|⟨y,r⟩⟩
  ·simp [oh]
  ·simp [oh]
  simp at hn1;omega
 rw [hup]at hI
 refine QC (.agg (l.flatMap ao).toArray) (fun α=>az (f:=ao) (l1:=acc) (l2:=l) al bL aj (bz (j:=2) aa) (nS (cast aa hK1)) ab ab) ?_
 exact aK fun α W _ hR hS=>by
  obtain⟨b',tl',h1,h2⟩:=aH.Pc hS (cells:=bf (oh ds)) (n:=3) (b:=(⟨[(.x 2 []),(.x 5 [])],27,(.row 32)⟩:ak)) aa rfl (hR 3 _ aa) (Eq.trans (b:=[Value.agg (bf acc).toArray,.agg (l.flatMap ao).toArray].flatMap ae) aa (by rw [← hI];simp [ae,bf]))
  exact⟨_,b',tl',rfl,hS.below,h1,h2⟩
namespace SX
section
variable {C:Cx}{ρ:List Value}{α:Nat→AV}{sz k:Nat}{i:V}
theorem pr{β:Type}{f:β→List Value}(hf:∀ a,(f a).length=sz)(h0:0<sz){l:List β}{cc:V}(hc:ae (cc.den ρ α)=l.flatMap f):cZ.rel C ρ α (.rlen sz) [cc] (.int .i64 ((l.length:Nat):Int)):=by
 show Value.int .i64 ((l.length:Nat):Int)=.int .i64 (((ae (cc.den ρ α)).length / sz:Nat):Int)
 rw [hc,aL hf,Nat.mul_div_cancel _ h0]
theorem lY{β:Type}{f:β→List Value}(hf:∀ a,(f a).length=sz)(h0:0<sz){l:List β}{cc:V}{z:β}(hc:ae (cc.den ρ α)=l.flatMap f)(hi:i.den ρ α=.int .i64 (k:Int))(hz:l[k]?=some z):cZ.rel C ρ α (.relems sz 0 sz) [cc,i] (.agg (f z).toArray):=by
 have hk:=(List.getElem?_eq_some_iff.1 hz).1
 refine⟨(iZ (C:=C) hf h0 hc hi hk).1,?_,?_⟩
 ·rw [hc,hi,aL hf]
  show(k:Int).toNat*sz+0+sz≤_
  rw [Int.toNat_natCast,Nat.add_zero,← Nat.succ_mul]
  exact Nat.mul_le_mul_right _ hk
 rw [hc,hi]
 show _=Value.agg ((((l.flatMap f).drop ((k:Int).toNat*sz+0)).take sz).toArray)
 rw [Int.toNat_natCast,Nat.add_zero,hJ hf hz,List.take_append_of_le_length (by rw [hf];exact Nat.le_refl _),List.take_of_length_le (by rw [hf];exact Nat.le_refl _)]
end
end SX
def oC(p:Pb):Dg:=bP (bI p.2)
def gW(l:List Dg):Dg :=
 if h:l.length≤1 then l.headD (fun _=>0)else gW (oh l)
termination_by l.length
decreasing_by rw [ob];omega
theorem zh{l:List Dg}(h:l.length≤1):gW l=l.headD (fun _=>0):=by rw [gW,dif_pos h]
theorem CF{l:List Dg}(h:¬ l.length≤1):gW (oh l)=gW l:=by conv=>rhs;rw [gW,dif_neg h]
theorem Gg(ps:List Pb):ps.flatMap (fun p=>[p.1])=ps.map (·.1):=by induction ps with
 | nil=>rfl
 | cons p r ih=>rw [List.flatMap_cons,ih];rfl
def Ko(K:QV)(f:FuncId)(xs:List SX.Arg)(v:Value):Prop:=f=81∧bn K∧∃ (u:Value) (l:List W8),xs=[⟨u,1,l.flatMap c8⟩]∧l≠[]∧l.length≤17592186044416∧v=dK (bP (bI l))
theorem bj{W:World}{u:Value}{z:Nat}{xs:List Value}(h:SX.Arg.rd W ⟨u,z,xs⟩)(hz:z≠0:=by decide):∃ A n c,u=.slice A n c∧Rd W z A n xs∧n≤c:=by
 unfold SX.Arg.rd at h
 split at h
 ·rename_i A n c hv
  exact⟨A,n,c,hv,h.1,h.2⟩
 exact absurd h (by simp [hz])
theorem Ar{K:QV}{f:FuncId}{xs:List SX.Arg}{v:Value}{W:World}(h:Ko K f xs v)(hrd:∀ x∈xs,x.rd W)(hK:∀ s sz cells,K s sz cells→SX.Arg.rd W ⟨s,sz,cells⟩) :
 Calls Tryz.prog f (xs.map SX.Arg.v).toArray W fun e w'=>e=.returned v∧Below W.heap.size W w':=by
 obtain⟨rfl,hL,u,l,rfl,hne,hl,rfl⟩:=h
 obtain⟨A,n,c,rfl,hr,hc⟩:=bj (hrd _ (List.mem_singleton.2 rfl))
 exact vK l A n c W hr hc hne hl (bF hL hK)
def KI:FuncId→Option SX.Sh:=fun f=>if f=78 then some (.ag 32)else if f=43 then some (.ag 32)else if f=81 then some (.ag 32)else if f=97 then some (.sl 1)else if f=99 then some (.sl 1)else none
noncomputable def Je(K A:QV):SX.Cx:={ P:=Tryz.prog,R:=Ko,shp:=KI,K:=K,A:=A,trm:=true,rc:=fun f=>if f=82 then some false else none }
theorem Nx(K A:QV):(Je K A).Ok:=by
 refine SX.Cx.b6 al ?_
 intro K f xs v W hR hrd hKf
 have hf:=hR.1
 exact(Ar hR hrd hKf).mono fun e w' h=>ay (by subst hf;rfl) h
theorem Iy(K A:QV)(hL:bn K){rw':List SX.Rw}{u:Value}{ds:List Dg}(hl:ds.length≤1000000):Fw (Je K A) 82 rw' [⟨u,32,bf ds⟩] 32 27 (.agg (bf (oh ds)).toArray):=fun W hrd hK _=>by
 obtain⟨A,n,c,rfl,h2,h3⟩:=bj (hrd ⟨u,32,bf ds⟩ ai W (.refl _ _))
 exact Mh ds A n c W h2 h3 hl (bF hL fun s sz cells h=>hK s sz cells h W (.refl _ _))
def sA:SX.Tree :=
(.df (.len false) [(.q 0)] .one
(.df (.bin .eql 3) [(.q 1),(.i 0)] .one
(.br 2 []
(.df (.call 43 [.no,(.own 1 [])]) [(.k (.string ⟨#[110,111,110,101]⟩)),(.k (.slice none 0 0))] (.ag 32)
(.ret (.a (QJ 3 0 32)) [] []))
(.df (.len false) [(.q 0)] .one
(.loop [(.i 0),(.cat [])] [.one,.any]
(.df (.bin .lss 3) [(.q 4),(.q 3)] .one
(.br 6 []
(.df .bnd [(.q 0),(.q 4)] .one
(.df (.elem 1 0) [(.q 0),(.q 4)] .one
(.df (.call 81 [(.ext 1)]) [(.q 8)] (.ag 32)
(.df (.dN 32 32 (.own 32 (QJ 9 0 32))) [(.cat [(.q 5)]),(.sl 6 0 1 1)] .any
(.df (.bin .add 3) [(.q 4),(.i 1)] .one
(.again 0 [(.q 11),(.cat [(.q 5),(.q 10)])]))))))
(.loop ([(.cat [(.q 5)])]++QL 32 (.k (.int .u8 0))) ([.any]++QL 32 .one)
(.df (.rbnd 32) [(.cat [(.q 7)]),(.i 0)] .one
(.df (.relems 32 0 32) [(.cat [(.q 7)]),(.i 0)] (.ag 32)
(.df (.rlen 32) [(.cat [(.q 7)])] .one
(.df (.bin .gtr 3) [(.q 42),(.i 1)] .one
(.br 43 []
(.df (.calln 82 [(.row 32 [(.q 7)])] 32 27) [(.row 6)] .any
(.again 1 [(.cat [(.q 44)]),(.x 41 [0]),(.x 41 [1]),(.x 41 [2]),(.x 41 [3]),(.x 41 [4]),(.x 41 [5]),(.x 41 [6]),(.x 41 [7]),(.x 41 [8]),(.x 41 [9]),(.x 41 [10]),(.x 41 [11]),(.x 41 [12]),(.x 41 [13]),(.x 41 [14]),(.x 41 [15]),(.x 41 [16]),(.x 41 [17]),(.x 41 [18]),(.x 41 [19]),(.x 41 [20]),(.x 41 [21]),(.x 41 [22]),(.x 41 [23]),(.x 41 [24]),(.x 41 [25]),(.x 41 [26]),(.x 41 [27]),(.x 41 [28]),(.x 41 [29]),(.x 41 [30]),(.x 41 [31])]))
(.ret (.a (QJ 41 0 32)) [] []))))))))))))))
def zL:List SX.V:=[.x 0 []]
def I5:kp:=⟨fun f=>f != 82,[⟨80,2,[(.s 8,.one),(.s 3,.row 32 27)]⟩,⟨80,6,(.s 3,.row 32 27)::(List.range 32).map fun j=>(.c 0 j,.one)⟩],0,100⟩
theorem EK(K A:QV):QU (Je K A) I5 18 Tryz.f18 zL [.one]=sA:=aa
theorem Hk(ps:List Pb)(A:Option Addr)(n c:Nat)(w:World)(hr:Rd w 1 A n (ps.map (·.1)))(hc:n≤c)(h0:ps≠[])(hl:ps.length≤1000000)(hp:∀ p∈ps,SX.Arg.rd w ⟨p.1,1,p.2.flatMap c8⟩)(hpl:∀ p∈ps,p.2≠[]∧p.2.length≤17592186044416)(hlaid:Laid w):RT 18 #[.slice A n c] w (dK (gW (ps.map oC))):=by
 refine QG (EK (KW w) QW) [.slice A n c] (Nx _ _) Tryz.func18 ?_ ?_
 ·exact fun W hW v z xs h=>h W hW
 have hL:bn (KW w):=dj hlaid
 have hln:ps.length=n:=by have:=hr.1;simpa using this
 have hn0:0<n:=by rw [← hln];exact List.length_pos_iff.2 h0
 have hA:=SX.rd_some hr
 rw [← Gg]at hr
 have hK1:KW w (.slice A n c) 1 (ps.flatMap fun p=>[p.1]):=fun W hW=>⟨hr.aJ hW,hc⟩
 have hKp:∀ p∈ps,KW w p.1 1 (p.2.flatMap c8):=fun p hm W hW=>by
  have h:=hp p hm
  obtain⟨A,n,c,e,h1,h2⟩:=bj h
  rw [e];exact⟨h1.aJ hW,h2⟩
 unfold sA
 refine QB (.int .i64 (n:Int)) ?_
 refine QF (.bool (decide ((n:Int)=0))) (rfl:aZ .eql (.int .i64 (n:Int)) (.int .i64 0)=some (.bool (decide ((n:Int)=0)))) ?_
 refine QD (decide ((n:Int)=0)) (fun h=>absurd (of_decide_eq_true h) ab) (fun _=>?_)
 refine QB (.int .i64 (n:Int)) ?_
 refine ck (fun xs=>∃ k:Nat,k≤n∧xs=[.int .i64 (k:Int),.agg (bf ((ps.take k).map oC)).toArray]) (fun xs=>match xs with|.int _ k::_=>n-k.toNat|_=>0) (fun α=>⟨0,ab,aa⟩) ?_
 rintro xs-⟨k,hk,rfl⟩
 refine QF (.bool (decide (k<n))) (dD k n) ?_
 refine QD (decide (k<n)) (fun h1=>?_) (fun h1=>?_)
 ·have h1:k<n:=af h1
  obtain⟨p,hp1⟩:∃ p,ps[k]?=some p:=⟨_,List.getElem?_eq_getElem ab⟩
  have hpm:=List.mem_of_getElem? hp1
  have htk:(ps.take (k+1)).map oC=(ps.take k).map oC++[oC p]:=by rw [List.take_add_one,hp1];simp
  refine QM A n c k hA h1 ?_
  refine aO p.1 (fun α=>cS (o:=0) (v:=p.1) (f:=fun p:Pb=>[p.1]) (l:=ps) (A:=A) (n:=n) (c:=c) (j:=k) (z:=p) al hA aa aa h1 (cast aa hK1) hp1 aj aa) (by obtain⟨A,n,c,e,_⟩:=bj (hp p hpm);rw [e];rfl) ?_
  refine QC (dK (oC p)) (fun α=>⟨[⟨p.1,1,p.2.flatMap c8⟩],⟨aa,rfl,cast aa (hKp p hpm),trivial⟩,⟨rfl,hL,p.1,p.2,rfl,(hpl p hpm).1,(hpl p hpm).2,rfl⟩,ap rfl⟩) ?_
  generalize oC p=D at *
  refine QC (.agg ([D].flatMap ao).toArray) (fun α=>az (f:=ao) (l1:=(ps.take k).map oC) (l2:=[D]) al bL aj (bz (j:=5) aa) ⟨⟨.slice (some ⟨(α 6).b,0,none⟩) 1 1,32,[D].flatMap ao⟩,QO,rfl,rfl⟩ aw aw) ?_
  refine QF (.int .i64 ((k+1:Nat):Int)) (cC (a:=k) (b:=1) (d:=k+1) rfl ab) ?_
  exact bW rfl (fun α=>⟨k+1,ab,Eq.trans (b:=[.int .i64 ((k+1:Nat):Int),.agg ([Value.agg (bf ((ps.take k).map oC)).toArray,.agg ([D].flatMap ao).toArray].flatMap ae).toArray]) aa (by rw [htk];simp [ae,bf])⟩) (fun α=>cast aa (show n-((k+1:Nat):Int).toNat<n-(k:Int).toNat by omega))
 have h1:¬ k<n:=af h1
 have htk:ps.take k=ps:=List.take_of_length_le ab
 rw [htk]
 have hml:(ps.map oC).length=n:=by rw [List.length_map,hln]
 generalize ps.map oC=ds at *
 refine ck (fun xs=>∃ (l:List Dg) (d:List Value),xs=.agg (bf l).toArray::d∧0<l.length∧l.length≤n∧gW l=gW ds∧d.length=32) (fun xs=>match xs with|.agg cs::_=>cs.toList.length|_=>0) (fun α=>⟨ds,List.replicate 32 (.int .u8 0),Eq.trans (b:=.agg ([Value.agg (bf ds).toArray].flatMap ae).toArray::List.replicate 32 (.int .u8 0)) aa (by simp [ae]),ab,ab,rfl,rfl⟩) ?_
 rintro xs-⟨l,d,rfl,hl0,hl1,hI,hd⟩
 obtain⟨d0,d1,d2,d3,d4,d5,d6,d7,d8,d9,d10,d11,d12,d13,d14,d15,d16,d17,d18,d19,d20,d21,d22,d23,d24,d25,d26,d27,d28,d29,d30,d31,rfl⟩:∃ d0 d1 d2 d3 d4 d5 d6 d7 d8 d9 d10 d11 d12 d13 d14 d15 d16 d17 d18 d19 d20 d21 d22 d23 d24 d25 d26 d27 d28 d29 d30 d31,d=[d0,d1,d2,d3,d4,d5,d6,d7,d8,d9,d10,d11,d12,d13,d14,d15,d16,d17,d18,d19,d20,d21,d22,d23,d24,d25,d26,d27,d28,d29,d30,d31]:=by
  refine⟨d[0],d[1],d[2],d[3],d[4],d[5],d[6],d[7],d[8],d[9],d[10],d[11],d[12],d[13],d[14],d[15],d[16],d[17],d[18],d[19],d[20],d[21],d[22],d[23],d[24],d[25],d[26],d[27],d[28],d[29],d[30],d[31],?_⟩
  apply List.ext_getElem hd
  intro i h1 h2
  have:i<32:=ab
  rcases i with _|_|_|_|_|_|_|_|_|_|_|_|_|_|_|_|_|_|_|_|_|_|_|_|_|_|_|_|_|_|_|_|i<;>first|rfl|omega
 obtain⟨x,hx⟩:∃ x,l[0]?=some x:=⟨_,List.getElem?_eq_getElem hl0⟩
 refine QC (.bool true) (fun α=>iZ (f:=ao) (l:=l) al aj (bz (j:=7) aa) aa hl0) ?_
 refine QC (dK x) (fun α=>lY (k:=0) (f:=ao) (l:=l) al aj (bz (j:=7) aa) aa hx) ?_
 refine QC (.int .i64 (l.length:Int)) (fun α=>pr (f:=ao) (l:=l) al aj (bz (j:=7) aa)) ?_
 refine QF (.bool (decide (1<l.length))) (eN l.length 1) ?_
 refine QD (decide (1<l.length)) (fun h2=>?_) (fun h2=>?_)
 ·have h2:1<l.length:=af h2
  have hu:=ob l
  have ht:=CF (l:=l) ab
  refine aO (.agg (bf (oh l)).toArray) (fun α=>⟨[⟨(α 6).h,32,bf l⟩],⟨Eq.trans (da (α 6).h 32 (bf l)) aa,trivial⟩,Iy _ _ hL ab⟩) rfl ?_
  generalize oh l=l2 at *
  exact bW rfl (fun α=>⟨l2,ao x,Eq.trans (b:=.agg ([Value.agg (bf l2).toArray].flatMap ae).toArray::ao x) aa (by simp [ae]),ab,ab,by rw [ht,hI],rfl⟩) (fun α=>cast aa (show([Value.agg (bf l2).toArray].flatMap ae).length<(bf l).length by simp [ae,gr];omega))
 have h2:¬ 1<l.length:=af h2
 have hx2:dK x=dK (gW ds):=by
  rw [← hI,zh ab,List.headD_eq_head?_getD,List.head?_eq_getElem?,hx];rfl
 exact aK fun α W _ _ hS=>by rw [← hx2];exact ji hS (x:=dK x) aa rfl
theorem An{a:Nat}(ha:a<2 ^ 62):aZ .xor (.int .i64 (a:Int)) (.int .i64 (1:Int))=some (.int .i64 ((a^^^1:Nat):Int)):=by
 have hb:a^^^1<2 ^ 62:=Nat.xor_lt_two_pow ha aj
 have h:(BitVec.ofInt 64 (a:Int)^^^BitVec.ofInt 64 (1:Int)).toNat=a^^^1:=by
  rw [BitVec.toNat_xor,BitVec.toNat_ofInt,BitVec.toNat_ofInt]
  congr 1
  omega
 show some (Value.int .i64 (IntKind.i64.wrap ((BitVec.ofInt 64 (a:Int)^^^BitVec.ofInt 64 (1:Int)).toNat:Int)))=_
 rw [h,wrap_i64 ab ab]
theorem cM{a:Nat}(ha:a<2 ^ 62):aZ .quo (.int .i64 (a:Int)) (.int .i64 (2:Int))=some (.int .i64 ((a / 2:Nat):Int)):=by
 have h2:(a:Int).tdiv 2=((a / 2:Nat):Int):=by
  rw [Int.tdiv_eq_ediv_of_nonneg ab];rfl
 simp only [aZ,if_true,h2]
 rw [if_neg aj,wrap_i64 ab ab]
def eD(l:List Dg)(i:Nat):List Dg :=
 l[i^^^1]?.toList++if h:l.length≤1 then []else eD (oh l) (i / 2)
termination_by l.length
decreasing_by rw [ob];omega
theorem mO{l:List Dg}{i:Nat}(h:l.length≤1):eD l i=l[i^^^1]?.toList:=by rw [eD,dif_pos h,List.append_nil]
theorem oJ{l:List Dg}{i:Nat}(h:¬ l.length≤1):eD l i=l[i^^^1]?.toList++eD (oh l) (i / 2):=by rw [eD,dif_neg h]
def pD:SX.Tree :=
(.df (.len false) [(.q 0)] .one
(.df (.bin .gtr 3) [(.q 2),(.i 65536)] .one
(.br 3 []
(.ret (.t [(.k (.slice none 0 0)),(.i 1)]) [none,none] [])
(.df (.bin .lss 3) [(.q 1),(.i 0)] .one
(.br 4 []
(.ret (.t [(.k (.slice none 0 0)),(.i 1)]) [none,none] [])
(.df (.len false) [(.q 0)] .one
(.df (.bin .geq 3) [(.q 1),(.q 5)] .one
(.br 6 []
(.ret (.t [(.k (.slice none 0 0)),(.i 1)]) [none,none] [])
(.df (.len false) [(.q 0)] .one
(.loop [(.i 0),(.cat [])] [.one,.any]
(.df (.bin .lss 3) [(.q 8),(.q 7)] .one
(.br 10 []
(.df .bnd [(.q 0),(.q 8)] .one
(.df (.elem 1 0) [(.q 0),(.q 8)] .one
(.df (.call 81 [(.ext 1)]) [(.q 12)] (.ag 32)
(.df (.dN 32 32 (.own 32 (QJ 13 0 32))) [(.cat [(.q 9)]),(.sl 7 0 1 1)] .any
(.df (.bin .add 3) [(.q 8),(.i 1)] .one
(.again 0 [(.q 15),(.cat [(.q 9),(.q 14)])]))))))
(.loop [(.cat [(.q 9)]),(.q 1),(.cat [])] [.any,.one,.any]
(.df (.bin .xor 3) [(.q 12),(.i 1)] .one
(.df (.rlen 32) [(.cat [(.q 11)])] .one
(.df (.bin .lss 3) [(.q 14),(.q 15)] .one
(.br 16 []
(.df (.rbnd 32) [(.cat [(.q 11)]),(.q 14)] .one
(.df (.relems 32 0 32) [(.cat [(.q 11)]),(.q 14)] (.ag 32)
(.df (.dN 32 32 (.own 32 (QJ 18 0 32))) [(.cat [(.q 13)]),(.sl 16 0 1 1)] .any
(.df (.bin .quo 3) [(.q 12),(.i 2)] .one
(.df (.rlen 32) [(.cat [(.q 11)])] .one
(.df (.bin .gtr 3) [(.q 21),(.i 1)] .one
(.br 22 []
(.df (.calln 82 [(.row 32 [(.q 11)])] 32 27) [(.row 8)] .any
(.again 1 [(.cat [(.q 23)]),(.q 20),(.cat [(.q 13),(.q 19)])]))
(.ret (.t [(.row 17),(.i 0)]) (List.replicate 17 none++[(some ⟨[(.q 13),(.q 19)],27,(.row 32)⟩)]) []))))))))
(.df (.bin .quo 3) [(.q 12),(.i 2)] .one
(.df (.rlen 32) [(.cat [(.q 11)])] .one
(.df (.bin .gtr 3) [(.q 18),(.i 1)] .one
(.br 19 []
(.df (.calln 82 [(.row 32 [(.q 11)])] 32 27) [(.row 8)] .any
(.again 1 [(.cat [(.q 20)]),(.q 17),(.cat [(.q 13)])]))
(.ret (.t [(.row 10),(.i 0)]) (List.replicate 10 none++[(some ⟨[(.q 13)],27,(.row 32)⟩)]) []))))))))))))))))))))))
def xr:List SX.V:=[.x 0 [],.x 1 []]
def FN:kp:=⟨fun f=>f != 82,[⟨80,2,[(.s 8,.one),(.s 3,.row 32 27)]⟩,⟨80,6,[(.s 3,.row 32 27),(.c 0 0,.one),(.c 1 0,.row 32 27)]⟩],2,100⟩
theorem Bi(K A:QV):QU (Je K A) FN 27 Tryz.f27 xr [.one,.one]=pD:=aa
theorem Ei(ps:List Pb)(at_:Nat)(A:Option Addr)(n c:Nat)(w:World)(hr:Rd w 1 A n (ps.map (·.1)))(hc:n≤c)(hat:at_<ps.length)(hl:ps.length≤65536)(hp:∀ p∈ps,SX.Arg.rd w ⟨p.1,1,p.2.flatMap c8⟩)(hpl:∀ p∈ps,p.2≠[]∧p.2.length≤17592186044416)(hlaid:Laid w):Calls Tryz.prog 27 #[.slice A n c,.int .i64 (at_:Int)] w fun e w'=>Below w.heap.size w w'∧∃ hdr,e=.returned (.tuple #[hdr,.int .i64 0])∧aH w w' [] hdr 32 (bf (eD (ps.map oC) at_)):=by
 refine QG (Bi (KW w) QW) [.slice A n c,.int .i64 (at_:Int)] (Nx _ _) Tryz.func27 ?_ ?_
 ·exact fun W hW v z xs h=>h W hW
 have hL:bn (KW w):=dj hlaid
 have hln:ps.length=n:=by have:=hr.1;simpa using this
 have hA:=SX.rd_some hr
 rw [← Gg]at hr
 have hK1:KW w (.slice A n c) 1 (ps.flatMap fun p=>[p.1]):=fun W hW=>⟨hr.aJ hW,hc⟩
 have hKp:∀ p∈ps,KW w p.1 1 (p.2.flatMap c8):=fun p hm W hW=>by
  have h:=hp p hm
  obtain⟨A,n,c,e,h1,h2⟩:=bj h
  rw [e];exact⟨h1.aJ hW,h2⟩
 unfold pD
 refine QB (.int .i64 (n:Int)) ?_
 refine QF (.bool (decide (65536<n))) (eN n 65536) ?_
 refine QD (decide (65536<n)) (fun h=>absurd (of_decide_eq_true h) ab) (fun _=>?_)
 refine QF (.bool (decide (at_<0))) (dD at_ 0) ?_
 refine QD (decide (at_<0)) (fun h=>absurd (of_decide_eq_true h) ab) (fun _=>?_)
 refine QB (.int .i64 (n:Int)) ?_
 refine QF (.bool (decide (n≤at_))) (gu at_ n) ?_
 refine QD (decide (n≤at_)) (fun h=>absurd (of_decide_eq_true h) ab) (fun _=>?_)
 refine QB (.int .i64 (n:Int)) ?_
 refine ck (fun xs=>∃ k:Nat,k≤n∧xs=[.int .i64 (k:Int),.agg (bf ((ps.take k).map oC)).toArray]) (fun xs=>match xs with|.int _ k::_=>n-k.toNat|_=>0) (fun α=>⟨0,ab,aa⟩) ?_
 rintro xs-⟨k,hk,rfl⟩
 refine QF (.bool (decide (k<n))) (dD k n) ?_
 refine QD (decide (k<n)) (fun h1=>?_) (fun h1=>?_)
 ·have h1:k<n:=af h1
  obtain⟨p,hp1⟩:∃ p,ps[k]?=some p:=⟨_,List.getElem?_eq_getElem ab⟩
  have hpm:=List.mem_of_getElem? hp1
  have htk:(ps.take (k+1)).map oC=(ps.take k).map oC++[oC p]:=by rw [List.take_add_one,hp1];simp
  refine QM A n c k hA h1 ?_
  refine aO p.1 (fun α=>cS (o:=0) (v:=p.1) (f:=fun p:Pb=>[p.1]) (l:=ps) (A:=A) (n:=n) (c:=c) (j:=k) (z:=p) al hA aa aa h1 (cast aa hK1) hp1 aj aa) (by obtain⟨A,n,c,e,_⟩:=bj (hp p hpm);rw [e];rfl) ?_
  refine QC (dK (oC p)) (fun α=>⟨[⟨p.1,1,p.2.flatMap c8⟩],⟨aa,rfl,cast aa (hKp p hpm),trivial⟩,⟨rfl,hL,p.1,p.2,rfl,(hpl p hpm).1,(hpl p hpm).2,rfl⟩,ap rfl⟩) ?_
  generalize oC p=D at *
  refine QC (.agg ([D].flatMap ao).toArray) (fun α=>az (f:=ao) (l1:=(ps.take k).map oC) (l2:=[D]) al bL aj (bz (j:=9) aa) ⟨⟨.slice (some ⟨(α 7).b,0,none⟩) 1 1,32,[D].flatMap ao⟩,QO,rfl,rfl⟩ aw aw) ?_
  refine QF (.int .i64 ((k+1:Nat):Int)) (cC (a:=k) (b:=1) (d:=k+1) rfl ab) ?_
  exact bW rfl (fun α=>⟨k+1,ab,Eq.trans (b:=[.int .i64 ((k+1:Nat):Int),.agg ([Value.agg (bf ((ps.take k).map oC)).toArray,.agg ([D].flatMap ao).toArray].flatMap ae).toArray]) aa (by rw [htk];simp [ae,bf])⟩) (fun α=>cast aa (show n-((k+1:Nat):Int).toNat<n-(k:Int).toNat by omega))
 have h1:¬ k<n:=af h1
 have htk:ps.take k=ps:=List.take_of_length_le ab
 rw [htk]
 have hml:(ps.map oC).length=n:=by rw [List.length_map,hln]
 generalize ps.map oC=ds at *
 refine ck (fun xs=>∃ (l:List Dg) (i:Nat) (acc:List Dg),xs=[.agg (bf l).toArray,.int .i64 (i:Int),.agg (bf acc).toArray]∧0<l.length∧acc.length+l.length≤n+1∧i<65536∧acc++eD l i=eD ds at_) (fun xs=>match xs with|.agg cs::_=>cs.toList.length|_=>0) (fun α=>⟨ds,at_,[],Eq.trans (b:=[.agg ([Value.agg (bf ds).toArray].flatMap ae).toArray,.int .i64 (at_:Int),.agg #[]]) aa (by simp [ae,bf]),ab,aw,ab,rfl⟩) ?_
 rintro xs-⟨l,i,acc,rfl,hl0,hl1,hi,hI⟩
 have hu:=ob l
 refine QF (.int .i64 ((i^^^1:Nat):Int)) (An (a:=i) ab) ?_
 refine QC (.int .i64 (l.length:Int)) (fun α=>pr (f:=ao) (l:=l) al aj (bz (j:=11) aa)) ?_
 refine QF (.bool (decide ((i^^^1)<l.length))) (dD (i^^^1) l.length) ?_
 refine QD (decide ((i^^^1)<l.length)) (fun h3=>?_) (fun h3=>?_)
 ·have h3:(i^^^1)<l.length:=af h3
  obtain⟨x,hx⟩:∃ x,l[i^^^1]?=some x:=⟨_,List.getElem?_eq_getElem h3⟩
  refine QC (.bool true) (fun α=>iZ (f:=ao) (l:=l) al aj (bz (j:=11) aa) aa h3) ?_
  refine QC (dK x) (fun α=>lY (k:=i^^^1) (f:=ao) (l:=l) al aj (bz (j:=11) aa) aa hx) ?_
  refine QC (.agg ([x].flatMap ao).toArray) (fun α=>az (f:=ao) (l1:=acc) (l2:=[x]) al bL aj (bz (j:=13) aa) ⟨⟨.slice (some ⟨(α 16).b,0,none⟩) 1 1,32,[x].flatMap ao⟩,QO,rfl,rfl⟩ aw aw) ?_
  refine QF (.int .i64 ((i / 2:Nat):Int)) (cM (a:=i) ab) ?_
  refine QC (.int .i64 (l.length:Int)) (fun α=>pr (f:=ao) (l:=l) al aj (bz (j:=11) aa)) ?_
  refine QF (.bool (decide (1<l.length))) (eN l.length 1) ?_
  refine QD (decide (1<l.length)) (fun h2=>?_) (fun h2=>?_)
  ·have h2:1<l.length:=af h2
   rw [oJ ab,hx]at hI
   refine aO (.agg (bf (oh l)).toArray) (fun α=>⟨[⟨(α 8).h,32,bf l⟩],⟨Eq.trans (da (α 8).h 32 (bf l)) aa,trivial⟩,Iy _ _ hL ab⟩) rfl ?_
   generalize oh l=l2 at *
   exact bW rfl (fun α=>⟨l2,i / 2,acc++[x],Eq.trans (b:=[.agg ([Value.agg (bf l2).toArray].flatMap ae).toArray,.int .i64 ((i / 2:Nat):Int),.agg ([Value.agg (bf acc).toArray,.agg ([x].flatMap ao).toArray].flatMap ae).toArray]) aa (by simp [ae,bf]),ab,aw,ab,by rw [← hI];simp⟩) (fun α=>cast aa (show([Value.agg (bf l2).toArray].flatMap ae).length<(bf l).length by simp [ae,gr];omega))
  have h2:¬ 1<l.length:=af h2
  rw [mO ab,hx]at hI
  exact aK fun α W _ hrow hS=>⟨hS.below,_,aa,aH.row hS (n:=17) (b:=(⟨[(.x 13 []),(.x 19 [])],27,(.row 32)⟩:ak)) aa rfl (hrow 17 _ aa) (Eq.trans (b:=[Value.agg (bf acc).toArray,.agg ([x].flatMap ao).toArray].flatMap ae) aa (by rw [← hI];simp [ae,bf]))⟩
 have h3:¬ (i^^^1)<l.length:=af h3
 have hx:l[i^^^1]?=none:=List.getElem?_eq_none ab
 refine QF (.int .i64 ((i / 2:Nat):Int)) (cM (a:=i) ab) ?_
 refine QC (.int .i64 (l.length:Int)) (fun α=>pr (f:=ao) (l:=l) al aj (bz (j:=11) aa)) ?_
 refine QF (.bool (decide (1<l.length))) (eN l.length 1) ?_
 refine QD (decide (1<l.length)) (fun h2=>?_) (fun h2=>?_)
 ·have h2:1<l.length:=af h2
  rw [oJ ab,hx]at hI
  refine aO (.agg (bf (oh l)).toArray) (fun α=>⟨[⟨(α 8).h,32,bf l⟩],⟨Eq.trans (da (α 8).h 32 (bf l)) aa,trivial⟩,Iy _ _ hL ab⟩) rfl ?_
  generalize oh l=l2 at *
  exact bW rfl (fun α=>⟨l2,i / 2,acc,Eq.trans (b:=[.agg ([Value.agg (bf l2).toArray].flatMap ae).toArray,.int .i64 ((i / 2:Nat):Int),.agg ([Value.agg (bf acc).toArray].flatMap ae).toArray]) aa (by simp [ae,bf]),ab,ab,ab,by rw [← hI];simp⟩) (fun α=>cast aa (show([Value.agg (bf l2).toArray].flatMap ae).length<(bf l).length by simp [ae,gr];omega))
 have h2:¬ 1<l.length:=af h2
 rw [mO ab,hx]at hI
 exact aK fun α W _ hrow hS=>⟨hS.below,_,aa,aH.row hS (n:=10) (b:=(⟨[(.x 13 [])],27,(.row 32)⟩:ak)) aa rfl (hrow 10 _ aa) (Eq.trans (b:=[Value.agg (bf acc).toArray].flatMap ae) aa (by rw [← hI];simp [ae,bf]))⟩
theorem oB{a:Nat}(ha:a<2 ^ 62):aZ .rem (.int .i64 (a:Int)) (.int .i64 (2:Int))=some (.int .i64 ((a % 2:Nat):Int)):=by
 have h2:(a:Int).tmod 2=((a % 2:Nat):Int):=by
  rw [Int.tmod_eq_emod_of_nonneg ab];rfl
 simp only [aZ,if_true,h2]
 rw [if_neg aj]
theorem oA(a:Nat):aZ .eql (.int .i64 (a:Int)) (.int .i64 (0:Int))=some (.bool (decide (a=0))):=by
 have e:decide ((a:Int)=0)=decide (a=0):=by simp only [decide_eq_decide];omega
 rw [← e];rfl
namespace SX
theorem zr{C:Cx}{N:List Arg}{s:Value}{z:Nat}{xs:List Value}(h:C.K s z xs):(C.plus N).K s z xs:=.inl h
theorem eR{C:Cx}{N:List Arg}{s:Value}{z:Nat}{xs:List Value}(h:(⟨s,z,xs⟩:Arg)∈N):(C.plus N).K s z xs:=.inr h
end SX
theorem jN{C:SX.Cx}{N:List SX.Arg}(h:bn C.K):bn (C.plus N).K:=⟨.inl h.1,.inl h.2⟩
def bc(n i:Nat)(d:Dg)(p:List Dg):Option Dg :=
 if h:n≤1 then(if p=[]then some d else none)
 else if n≤(i^^^1)then bc ((n+1) / 2) (i / 2) d p
 else match p with
  | []=>none
  | q::r=>if i % 2=0 then bc ((n+1) / 2) (i / 2) (bP (gx d q)) r else bc ((n+1) / 2) (i / 2) (bP (gx q d)) r
termination_by n
decreasing_by all_goals omega
theorem lH{n i:Nat}{d:Dg}{p:List Dg}(h:n≤1):bc n i d p=if p=[]then some d else none:=by rw [bc.eq_def,dif_pos h]
theorem o4{n i:Nat}{d:Dg}{p:List Dg}(h:¬ n≤1)(h2:n≤(i^^^1)):bc n i d p=bc ((n+1) / 2) (i / 2) d p:=by conv=>lhs;rw [bc.eq_def,dif_neg h,if_pos h2]
theorem tI{n i:Nat}{d:Dg}(h:¬ n≤1)(h2:¬ n≤(i^^^1)):bc n i d []=none:=by rw [bc,dif_neg h,if_neg h2]
theorem o5{n i:Nat}{d q:Dg}{r:List Dg}(h:¬ n≤1)(h2:¬ n≤(i^^^1))(h3:i % 2=0):bc n i d (q::r)=bc ((n+1) / 2) (i / 2) (bP (gx d q)) r:=by conv=>lhs;rw [bc,dif_neg h,if_neg h2];simp only [h3,if_true]
theorem mD{n i:Nat}{d q:Dg}{r:List Dg}(h:¬ n≤1)(h2:¬ n≤(i^^^1))(h3:¬ i % 2=0):bc n i d (q::r)=bc ((n+1) / 2) (i / 2) (bP (gx q d)) r:=by conv=>lhs;rw [bc,dif_neg h,if_neg h2];simp only [h3,if_false]
def il:Option Dg→Value
 | some d=>.tuple #[dK d,.int .i64 0]
 | none=>.tuple #[dK (fun _=>0),.int .i64 70]
abbrev dY:=Option Addr×Nat×Nat
def aA(t:dY):List Value:=[.slice t.1 t.2.1 t.2.2]
theorem cB(t:dY):∀ u∈aA t,u.oneCell'=true:=by intro u hu;rw [List.mem_singleton.1 hu];rfl
noncomputable def kG(K A:QV):SX.Cx:={ P:=Tryz.prog,R:=fun K f xs v=>zv K f xs v∨Fy K f xs v∨Fx K f xs v,shp:=KI,K:=K,A:=A,trm:=true,la:=true,tl:=[96] }
theorem JM(K A:QV):(kG K A).Ok:=by
 refine SX.Cx.b6 al ?_
 intro K f xs v W hR hrd hKf
 rcases hR with hR|hR|hR
 ·have hf:=hR.1
  exact(iH hR hrd hKf).mono fun e w' h=>ay (by subst hf;rfl) h
 ·exact sf hR rfl hrd hKf
 exact rl hR rfl hKf
def pC:SX.Tree :=
(.df (.bin .gtr 3) [(.q 0),(.i 65536)] .one
(.br 4 []
(.ret (.t [(.a (QL 32 (.k (.int .u8 0)))),(.i 1)]) [none] [])
(.df (.bin .lss 3) [(.q 1),(.i 0)] .one
(.br 5 []
(.ret (.t [(.a (QL 32 (.k (.int .u8 0)))),(.i 1)]) [none] [])
(.df (.bin .geq 3) [(.q 1),(.q 0)] .one
(.br 6 []
(.ret (.t [(.a (QL 32 (.k (.int .u8 0)))),(.i 1)]) [none] [])
(.df (.call 97 [.no,(.own 1 [(.q 2)])]) [(.k (.string ⟨#[108,101,97,102]⟩)),(.sl 7 0 1 1)] (.sl 1)
(.df (.lastq 1) [(.cat [(.q 7)])] .one
(.df (.dN 1 24 (.own 1 [(.q 8)])) [(.cat []),(.sl 9 0 1 1)] .any
(.df (.call 78 [(.ext 1)]) [(.q 8)] (.ag 32)
(.df (.dN 32 32 (.own 32 (QJ 10 0 32))) [(.cat []),(.sl 15 0 1 1)] .any
(.loop [(.q 0),(.q 1),(.q 3),(.cat [(.q 11)]),(.cat [(.q 9)])] [.one,.one,.one,.any,.any]
(.df (.bin .gtr 3) [(.q 12),(.i 1)] .one
(.br 17 []
(.df (.bin .xor 3) [(.q 13),(.i 1)] .one
(.df (.bin .geq 3) [(.q 18),(.q 12)] .one
(.df (.bin .rem 3) [(.q 13),(.i 2)] .one
(.df (.bin .eql 3) [(.q 20),(.i 0)] .one
(.df (.rlen 32) [(.cat [(.q 15)])] .one
(.df (.bin .sub 3) [(.q 22),(.i 1)] .one
(.df (.rbnd 32) [(.cat [(.q 15)]),(.q 23)] .one
(.df (.relems 32 0 32) [(.cat [(.q 15)]),(.q 23)] (.ag 32)
(.br 19 []
(.df (.dN 1 24 (.own 1 [(.k (.slice none 0 0))])) [(.cat [(.q 16)]),(.sl 29 0 1 1)] .any
(.df (.dN 32 32 (.own 32 (QJ 25 0 32))) [(.cat [(.q 15)]),(.sl 34 0 1 1)] .any
(.df (.bin .add 3) [(.q 12),(.i 1)] .one
(.df (.bin .quo 3) [(.q 28),(.i 2)] .one
(.df (.bin .quo 3) [(.q 13),(.i 2)] .one
(.again 0 [(.q 29),(.q 30),(.q 14),(.cat [(.q 15),(.q 27)]),(.cat [(.q 16),(.q 26)])]))))))
(.df (.len false) [(.q 14)] .one
(.df (.bin .eql 3) [(.q 26),(.i 0)] .one
(.br 27 []
(.ret (.t [(.a (QL 32 (.k (.int .u8 0)))),(.i 70)]) (List.replicate 28 none) [])
(.br 21 []
(.df .bnd [(.q 14),(.i 0)] .one
(.df (.elems 32 0 32) [(.q 14),(.i 0)] (.ag 32)
(.df (.call 99 [.no,.no]) [(.a (QJ 25 0 32)),(.a (QJ 29 0 32))] (.sl 1)
(.df (.lastq 1) [(.cat [(.q 30)])] .one
(.df (.dN 1 24 (.own 1 [(.q 31)])) [(.cat [(.q 16)]),(.sl 33 0 1 1)] .any
(.df (.call 78 [(.ext 1)]) [(.q 31)] (.ag 32)
(.df (.dN 32 32 (.own 32 (QJ 33 0 32))) [(.cat [(.q 15)]),(.sl 39 0 1 1)] .any
(.df (.slc false 32 true false false) [(.q 14),(.i 1)] .one
(.df (.bin .add 3) [(.q 12),(.i 1)] .one
(.df (.bin .quo 3) [(.q 36),(.i 2)] .one
(.df (.bin .quo 3) [(.q 13),(.i 2)] .one
(.again 0 [(.q 37),(.q 38),(.q 35),(.cat [(.q 15),(.q 34)]),(.cat [(.q 16),(.q 32)])]))))))))))))
(.df .bnd [(.q 14),(.i 0)] .one
(.df (.elems 32 0 32) [(.q 14),(.i 0)] (.ag 32)
(.df (.call 99 [.no,.no]) [(.a (QJ 29 0 32)),(.a (QJ 25 0 32))] (.sl 1)
(.df (.lastq 1) [(.cat [(.q 30)])] .one
(.df (.dN 1 24 (.own 1 [(.q 31)])) [(.cat [(.q 16)]),(.sl 33 0 1 1)] .any
(.df (.call 78 [(.ext 1)]) [(.q 31)] (.ag 32)
(.df (.dN 32 32 (.own 32 (QJ 33 0 32))) [(.cat [(.q 15)]),(.sl 39 0 1 1)] .any
(.df (.slc false 32 true false false) [(.q 14),(.i 1)] .one
(.df (.bin .add 3) [(.q 12),(.i 1)] .one
(.df (.bin .quo 3) [(.q 36),(.i 2)] .one
(.df (.bin .quo 3) [(.q 13),(.i 2)] .one
(.again 0 [(.q 37),(.q 38),(.q 35),(.cat [(.q 15),(.q 34)]),(.cat [(.q 16),(.q 32)])])))))))))))))))))))))))))
(.df (.len false) [(.q 14)] .one
(.df (.bin .eql 3) [(.q 18),(.i 0)] .one
(.df .not [(.q 19)] .one
(.br 20 []
(.ret (.t [(.a (QL 32 (.k (.int .u8 0)))),(.i 70)]) (List.replicate 26 none) [])
(.df (.rlen 32) [(.cat [(.q 15)])] .one
(.df (.bin .sub 3) [(.q 21),(.i 1)] .one
(.df (.rbnd 32) [(.cat [(.q 15)]),(.q 22)] .one
(.df (.relems 32 0 32) [(.cat [(.q 15)]),(.q 22)] (.ag 32)
(.ret (.t [(.a (QJ 24 0 32)),(.i 0)]) (List.replicate 26 none) [])))))))))))))))))))))))
def xq:List SX.V:=[.x 0 [],.x 1 [],.x 2 [],.x 3 []]
def FM:kp:=⟨fun f=>true,[⟨124,0,[(.c 17 0,.one),(.c 18 0,.one),(.c 1 0,.one),(.c 2 0,.row 32 27),(.c 2 1,.row 1 46)]⟩],12,100⟩
theorem Bh(K A:QV):QU (kG K A) FM 65 Tryz.f65 xq [.one,.one,.one,.one]=pC:=aa
theorem tH(n i:Nat)(lf:List W8)(p:List Dg)(A:Option Addr)(k e:Nat)(B:Option Addr)(m c:Nat)(w:World)(hi:i<n)(hn:n≤65536)(hrl:Rd w 1 A k (lf.flatMap c8))(hce:k≤e)(hlf:lf≠[])(hlfl:lf.length≤17592186044416)(hr:Rd w 32 B m (bf p))(hc:m≤c)(hlaid:Laid w):RT 65 #[.int .i64 (n:Int),.int .i64 (i:Int),.slice A k e,.slice B m c] w (il (bc n i (bP (bI lf)) p)):=by
 refine QG (Bh (KW w) QW) [.int .i64 (n:Int),.int .i64 (i:Int),.slice A k e,.slice B m c] (JM _ _) Tryz.func65 ?_ ?_ ⟨rfl,Nat.zero_le _⟩ (fun _ s sz cells h=>h.elim)
 ·exact fun W hW v z xs h=>h W hW
 have hL:bn (kG (KW w) QW).K:=dj hlaid
 have hKl:KW w (.slice A k e) 1 (lf.flatMap c8):=fun W hW=>⟨hrl.aJ hW,hce⟩
 have hX:=qe lf
 have hXe:bI lf=dv (sb iX)++[((.slice A k e:Value),lf)].flatMap (·.2):=by simp only [bI,List.flatMap_cons,List.flatMap_nil,List.append_nil]
 generalize bI lf=X at *
 unfold pC
 refine QF (.bool (decide (65536<n))) (eN n 65536) ?_
 refine QD (decide (65536<n)) (fun h=>absurd (of_decide_eq_true h) ab) (fun _=>?_)
 refine QF (.bool (decide (i<0))) (dD i 0) ?_
 refine QD (decide (i<0)) (fun h=>absurd (of_decide_eq_true h) ab) (fun _=>?_)
 refine QF (.bool (decide (n≤i))) (gu i n) ?_
 refine QD (decide (n≤i)) (fun h=>absurd (of_decide_eq_true h) ab) (fun _=>?_)
 refine aO (.agg (X.flatMap c8).toArray) (fun α=>⟨[⟨.string iX,0,[]⟩,⟨.slice (some ⟨(α 7).b,0,none⟩) 1 1,1,[.slice A k e]⟩],⟨aa,aa,aa,trivial⟩,.inr (.inl ⟨rfl,hL,iX,(α 7).b,0,1,1,[(.slice A k e,lf)],rfl,(fun q hq=>by rw [List.mem_singleton.1 hq];exact hKl),aj,ai,ai,by simp only [List.flatMap_cons,List.flatMap_nil,List.append_nil];omega,af hlf,by rw [hXe]⟩),ap rfl⟩) (bg _) ?_
 refine dM (fun v N=>∃ A2 n2 c2,v=.slice A2 n2 c2∧N=[⟨.slice A2 n2 c2,1,X.flatMap c8⟩]) al (fun α A2 n2 c2 _ _ _=>⟨A2,n2,c2,rfl,Eq.trans (b:=[⟨.slice A2 n2 c2,1,[Value.agg ([Value.agg (X.flatMap c8).toArray].flatMap ae).toArray].flatMap ae⟩]) aa (by simp [ae])⟩) ?_
 rintro _ _-⟨A2,n2,c2,rfl,rfl⟩
 refine QC (.agg ([((A2,n2,c2):dY)].flatMap aA).toArray) (fun α=>az (f:=aA) (l1:=[]) (l2:=[((A2,n2,c2):dY)]) al cB aj aa (aS aa) ai ai) ?_
 refine QC (dK (bP X)) (fun α=>⟨[⟨.slice A2 n2 c2,1,X.flatMap c8⟩],⟨aa,rfl,cast aa (eR (C:=kG (KW w) QW) (N:=[⟨.slice A2 n2 c2,1,X.flatMap c8⟩]++[]) (List.mem_singleton.2 rfl)),trivial⟩,.inl (jb (jN hL) ab),ap rfl⟩) ?_
 generalize bP X=D at *
 refine QC (.agg ([D].flatMap ao).toArray) (fun α=>az (f:=ao) (l1:=[]) (l2:=[D]) al bL aj aa ⟨⟨.slice (some ⟨(α 15).b,0,none⟩) 1 1,32,[D].flatMap ao⟩,QO,rfl,rfl⟩ ai ai) ?_
 have hL1:bn ((kG (KW w) QW).plus ([⟨.slice A2 n2 c2,1,X.flatMap c8⟩]++(kG (KW w) QW).N)).K:=jN hL
 have hK1:∀ s z xs,KW w s z xs→((kG (KW w) QW).plus ([⟨.slice A2 n2 c2,1,X.flatMap c8⟩]++(kG (KW w) QW).N)).K s z xs:=fun s z xs h=>.inl h
 refine mZ (fun xs N=>∃ (n1 i1:Nat) (B1:Option Addr) (m1 c1:Nat) (q acc:List Dg) (d:Dg) (T:List dY),xs=[.int .i64 (n1:Int),.int .i64 (i1:Int),.slice B1 m1 c1,.agg (bf (acc++[d])).toArray,.agg (T.flatMap aA).toArray]∧i1<65536∧n1≤65536∧Rd w 32 B1 m1 (bf q)∧m1≤c1∧q.length=m1∧acc.length+n1≤65537∧T.length=acc.length+1∧bc n1 i1 d q=bc n i D p) (fun xs=>match xs with|.int _ i::_=>i.toNat|_=>0) al (fun α=>⟨[],(fun y hy=>nomatch hy),n,i,B,m,c,p,[],D,[(A2,n2,c2)],Eq.trans (b:=[.int .i64 (n:Int),.int .i64 (i:Int),.slice B m c,.agg ([Value.agg ([D].flatMap ao).toArray].flatMap ae).toArray,.agg ([Value.agg ([((A2,n2,c2):dY)].flatMap aA).toArray].flatMap ae).toArray]) aa (by simp [ae,bf]),ab,hn,hr,hc,by have:=hr.1;rw [gr]at this;omega,aw,rfl,rfl⟩) ?_
 rintro xs N-⟨n1,i1,B1,m1,c1,q,acc,d,T,rfl,hi1,hn1,hr1,hc1,hm1,hac,hT,hI⟩
 have hL2:=jN (N:=N) hL1
 have hKq:=zr (N:=N) (hK1 (.slice B1 m1 c1) 32 (bf q) fun W hW=>⟨hr1.aJ hW,hc1⟩)
 have hB1:=SX.rd_some hr1
 refine QF (.bool (decide (1<n1))) (eN n1 1) ?_
 refine QD (decide (1<n1)) (fun h1=>?_) (fun h1=>?_)
 ·have h1:1<n1:=af h1
  refine QF (.int .i64 ((i1^^^1:Nat):Int)) (An (a:=i1) ab) ?_
  refine QF (.bool (decide (n1≤(i1^^^1)))) (gu (i1^^^1) n1) ?_
  refine QF (.int .i64 ((i1 % 2:Nat):Int)) (oB (a:=i1) ab) ?_
  refine QF (.bool (decide (i1 % 2=0))) (oA (i1 % 2)) ?_
  have hlast:(acc++[d])[acc.length]?=some d:=ai
  refine QC (.int .i64 (((acc++[d]).length:Nat):Int)) (fun α=>pr (f:=ao) (l:=acc++[d]) al aj (bz (j:=15) aa)) ?_
  refine QF (.int .i64 ((acc.length:Nat):Int)) (mF (a:=(acc++[d]).length) (b:=1) (d:=acc.length) ai aw) ?_
  refine QC (.bool true) (fun α=>iZ (f:=ao) (l:=acc++[d]) (k:=acc.length) al aj (bz (j:=15) aa) aa ai) ?_
  refine QC (dK d) (fun α=>lY (k:=acc.length) (f:=ao) (l:=acc++[d]) al aj (bz (j:=15) aa) aa hlast) ?_
  refine QD (decide (n1≤(i1^^^1))) (fun h2=>?_) (fun h2=>?_)
  ·have h2:n1≤(i1^^^1):=af h2
   refine QC (.agg ([((none,0,0):dY)].flatMap aA).toArray) (fun α=>az (f:=aA) (l1:=T) (l2:=[((none,0,0):dY)]) al cB aj (bz (j:=16) aa) (aS aa) aw aw) ?_
   refine QC (.agg ([d].flatMap ao).toArray) (fun α=>az (f:=ao) (l1:=acc++[d]) (l2:=[d]) al bL aj (bz (j:=15) aa) ⟨⟨.slice (some ⟨(α 34).b,0,none⟩) 1 1,32,[d].flatMap ao⟩,QO,rfl,rfl⟩ aw aw) ?_
   refine QF (.int .i64 ((n1+1:Nat):Int)) (cC (a:=n1) (b:=1) (d:=n1+1) rfl ab) ?_
   refine QF (.int .i64 (((n1+1) / 2:Nat):Int)) (cM (a:=n1+1) ab) ?_
   refine QF (.int .i64 ((i1 / 2:Nat):Int)) (cM (a:=i1) ab) ?_
   exact bO fun α=>⟨rfl,[],(fun y hy=>nomatch hy),⟨(n1+1) / 2,i1 / 2,_,m1,c1,q,acc++[d],d,T++[(none,0,0)],Eq.trans (b:=[.int .i64 (((n1+1) / 2:Nat):Int),.int .i64 ((i1 / 2:Nat):Int),.slice B1 m1 c1,.agg ([Value.agg (bf (acc++[d])).toArray,.agg ([d].flatMap ao).toArray].flatMap ae).toArray,.agg ([Value.agg (T.flatMap aA).toArray,.agg ([(none,0,0)].flatMap aA).toArray].flatMap ae).toArray]) aa (by simp [ae,bf,bo]),ab,ab,hr1,hc1,hm1,aw,by simp [hT],by rw [← hI];exact(o4 ab h2).symm⟩,cast aa (show(((n1+1) / 2:Nat):Int).toNat<(n1:Int).toNat by omega)⟩
  have h2:¬ n1≤(i1^^^1):=af h2
  refine QB (.int .i64 (m1:Int)) ?_
  refine QF (.bool (decide (m1=0))) (oA m1) ?_
  refine QD (decide (m1=0)) (fun hm0=>?_) (fun hm0=>?_)
  ·have hm0:m1=0:=af hm0
   have hq:q=[]:=List.eq_nil_of_length_eq_zero ab
   have hE:bc n i D p=none:=by rw [← hI,hq];exact tI ab h2
   rw [hE]
   exact QE (.tuple #[dK (fun _=>0),.int .i64 70]) rfl
  have hm0:0<m1:=by
   have:¬ m1=0:=af hm0
   omega
  rcases q with _|⟨q0,q⟩
  ·simp at hm1;omega
  simp only [List.length_cons]at hm1
  refine QD (decide (i1 % 2=0)) (fun h3=>?_) (fun h3=>?_)
  ·have h3:i1 % 2=0:=af h3
   refine QM B1 m1 c1 0 hB1 hm0 ?_
   refine QN (f:=ao) (l:=q0::q) (dK q0) B1 m1 c1 0 q0 hB1 hm0 (cast aa hKq) rfl ?_
   have hY:=j7 d q0
   have hE:bc ((n1+1) / 2) (i1 / 2) (bP (gx d q0)) q=bc n i D p:=by rw [← hI];exact(o5 ab ab h3).symm
   refine aO (.agg ((gx d q0).flatMap c8).toArray) (fun α=>⟨[⟨dK d,0,[]⟩,⟨dK q0,0,[]⟩],QQ,.inr (.inr ⟨rfl,hL2,d,q0,rfl,rfl⟩),ap rfl⟩) (bg _) ?_
   generalize gx d q0=Y at *
   refine dM (fun v N=>∃ A3 n3 c3,v=.slice A3 n3 c3∧N=[⟨.slice A3 n3 c3,1,Y.flatMap c8⟩]) al (fun α A3 n3 c3 _ _ _=>⟨A3,n3,c3,rfl,Eq.trans (b:=[⟨.slice A3 n3 c3,1,[Value.agg ([Value.agg (Y.flatMap c8).toArray].flatMap ae).toArray].flatMap ae⟩]) aa (by simp [ae])⟩) ?_
   have hKm:∀ (A3:Option Addr) (n3 c3:Nat),((((kG (KW w) QW).plus ([⟨.slice A2 n2 c2,1,X.flatMap c8⟩]++(kG (KW w) QW).N)).plus N).plus ([⟨.slice A3 n3 c3,1,Y.flatMap c8⟩]++(((kG (KW w) QW).plus ([⟨.slice A2 n2 c2,1,X.flatMap c8⟩]++(kG (KW w) QW).N)).plus N).N)).K (.slice A3 n3 c3) 1 (Y.flatMap c8):=fun A3 n3 c3=>eR (List.mem_append_left _ (List.mem_singleton.2 rfl))
   rintro _ _-⟨A3,n3,c3,rfl,rfl⟩
   refine QC (.agg ([((A3,n3,c3):dY)].flatMap aA).toArray) (fun α=>az (f:=aA) (l1:=T) (l2:=[((A3,n3,c3):dY)]) al cB aj (bz (j:=16) aa) (aS aa) aw aw) ?_
   refine QC (dK (bP Y)) (fun α=>⟨[⟨.slice A3 n3 c3,1,Y.flatMap c8⟩],⟨aa,rfl,cast aa (hKm A3 n3 c3),trivial⟩,.inl (jb (jN hL2) ab),ap rfl⟩) ?_
   generalize bP Y=DY at *
   refine QC (.agg ([DY].flatMap ao).toArray) (fun α=>az (f:=ao) (l1:=acc++[d]) (l2:=[DY]) al bL aj (bz (j:=15) aa) ⟨⟨.slice (some ⟨(α 39).b,0,none⟩) 1 1,32,[DY].flatMap ao⟩,QO,rfl,rfl⟩ aw aw) ?_
   refine QC (bo B1 32 1 m1 c1) (fun α=>du (A:=B1) (n:=m1) (c:=c1) (k:=1) aa aa hm0) ?_
   refine QF (.int .i64 ((n1+1:Nat):Int)) (cC (a:=n1) (b:=1) (d:=n1+1) rfl ab) ?_
   refine QF (.int .i64 (((n1+1) / 2:Nat):Int)) (cM (a:=n1+1) ab) ?_
   refine QF (.int .i64 ((i1 / 2:Nat):Int)) (cM (a:=i1) ab) ?_
   exact bO fun α=>⟨rfl,[],(fun y hy=>nomatch hy),⟨(n1+1) / 2,i1 / 2,_,m1-1,c1-1,q,acc++[d],DY,T++[(A3,n3,c3)],Eq.trans (b:=[.int .i64 (((n1+1) / 2:Nat):Int),.int .i64 ((i1 / 2:Nat):Int),bo B1 32 1 m1 c1,.agg ([Value.agg (bf (acc++[d])).toArray,.agg ([DY].flatMap ao).toArray].flatMap ae).toArray,.agg ([Value.agg (T.flatMap aA).toArray,.agg ([(A3,n3,c3)].flatMap aA).toArray].flatMap ae).toArray]) aa (by simp [ae,bf,bo]),ab,ab,hr1.cut hm0 hc1,ab,ab,aw,by simp [hT],hE⟩,cast aa (show(((n1+1) / 2:Nat):Int).toNat<(n1:Int).toNat by omega)⟩
  have h3:¬ i1 % 2=0:=af h3
  refine QM B1 m1 c1 0 hB1 hm0 ?_
  refine QN (f:=ao) (l:=q0::q) (dK q0) B1 m1 c1 0 q0 hB1 hm0 (cast aa hKq) rfl ?_
  have hY:=j7 q0 d
  have hE:bc ((n1+1) / 2) (i1 / 2) (bP (gx q0 d)) q=bc n i D p:=by rw [← hI];exact(mD ab ab h3).symm
  refine aO (.agg ((gx q0 d).flatMap c8).toArray) (fun α=>⟨[⟨dK q0,0,[]⟩,⟨dK d,0,[]⟩],QQ,.inr (.inr ⟨rfl,hL2,q0,d,rfl,rfl⟩),ap rfl⟩) (bg _) ?_
  generalize gx q0 d=Y at *
  refine dM (fun v N=>∃ A3 n3 c3,v=.slice A3 n3 c3∧N=[⟨.slice A3 n3 c3,1,Y.flatMap c8⟩]) al (fun α A3 n3 c3 _ _ _=>⟨A3,n3,c3,rfl,Eq.trans (b:=[⟨.slice A3 n3 c3,1,[Value.agg ([Value.agg (Y.flatMap c8).toArray].flatMap ae).toArray].flatMap ae⟩]) aa (by simp [ae])⟩) ?_
  have hKm:∀ (A3:Option Addr) (n3 c3:Nat),((((kG (KW w) QW).plus ([⟨.slice A2 n2 c2,1,X.flatMap c8⟩]++(kG (KW w) QW).N)).plus N).plus ([⟨.slice A3 n3 c3,1,Y.flatMap c8⟩]++(((kG (KW w) QW).plus ([⟨.slice A2 n2 c2,1,X.flatMap c8⟩]++(kG (KW w) QW).N)).plus N).N)).K (.slice A3 n3 c3) 1 (Y.flatMap c8):=fun A3 n3 c3=>eR (List.mem_append_left _ (List.mem_singleton.2 rfl))
  rintro _ _-⟨A3,n3,c3,rfl,rfl⟩
  refine QC (.agg ([((A3,n3,c3):dY)].flatMap aA).toArray) (fun α=>az (f:=aA) (l1:=T) (l2:=[((A3,n3,c3):dY)]) al cB aj (bz (j:=16) aa) (aS aa) aw aw) ?_
  refine QC (dK (bP Y)) (fun α=>⟨[⟨.slice A3 n3 c3,1,Y.flatMap c8⟩],⟨aa,rfl,cast aa (hKm A3 n3 c3),trivial⟩,.inl (jb (jN hL2) ab),ap rfl⟩) ?_
  generalize bP Y=DY at *
  refine QC (.agg ([DY].flatMap ao).toArray) (fun α=>az (f:=ao) (l1:=acc++[d]) (l2:=[DY]) al bL aj (bz (j:=15) aa) ⟨⟨.slice (some ⟨(α 39).b,0,none⟩) 1 1,32,[DY].flatMap ao⟩,QO,rfl,rfl⟩ aw aw) ?_
  refine QC (bo B1 32 1 m1 c1) (fun α=>du (A:=B1) (n:=m1) (c:=c1) (k:=1) aa aa hm0) ?_
  refine QF (.int .i64 ((n1+1:Nat):Int)) (cC (a:=n1) (b:=1) (d:=n1+1) rfl ab) ?_
  refine QF (.int .i64 (((n1+1) / 2:Nat):Int)) (cM (a:=n1+1) ab) ?_
  refine QF (.int .i64 ((i1 / 2:Nat):Int)) (cM (a:=i1) ab) ?_
  exact bO fun α=>⟨rfl,[],(fun y hy=>nomatch hy),⟨(n1+1) / 2,i1 / 2,_,m1-1,c1-1,q,acc++[d],DY,T++[(A3,n3,c3)],Eq.trans (b:=[.int .i64 (((n1+1) / 2:Nat):Int),.int .i64 ((i1 / 2:Nat):Int),bo B1 32 1 m1 c1,.agg ([Value.agg (bf (acc++[d])).toArray,.agg ([DY].flatMap ao).toArray].flatMap ae).toArray,.agg ([Value.agg (T.flatMap aA).toArray,.agg ([(A3,n3,c3)].flatMap aA).toArray].flatMap ae).toArray]) aa (by simp [ae,bf,bo]),ab,ab,hr1.cut hm0 hc1,ab,ab,aw,by simp [hT],hE⟩,cast aa (show(((n1+1) / 2:Nat):Int).toNat<(n1:Int).toNat by omega)⟩
 have h1:¬ 1<n1:=af h1
 refine QB (.int .i64 (m1:Int)) ?_
 refine QF (.bool (decide (m1=0))) (oA m1) ?_
 refine QB (.bool (!decide (m1=0))) ?_
 refine QD (!decide (m1=0)) (fun hm0=>?_) (fun hm0=>?_)
 ·have hm0:¬ m1=0:=af hm0
  have hE:bc n i D p=none:=by rw [← hI,lH ab,if_neg (by rintro rfl;simp at hm1;omega)]
  rw [hE]
  exact QE (.tuple #[dK (fun _=>0),.int .i64 70]) rfl
 have hm0:m1=0:=af hm0
 have hE:bc n i D p=some d:=by rw [← hI,lH ab,if_pos (List.eq_nil_of_length_eq_zero ab)]
 rw [hE]
 have hlast:(acc++[d])[acc.length]?=some d:=ai
 refine QC (.int .i64 (((acc++[d]).length:Nat):Int)) (fun α=>pr (f:=ao) (l:=acc++[d]) al aj (bz (j:=15) aa)) ?_
 refine QF (.int .i64 ((acc.length:Nat):Int)) (mF (a:=(acc++[d]).length) (b:=1) (d:=acc.length) ai aw) ?_
 refine QC (.bool true) (fun α=>iZ (f:=ao) (l:=acc++[d]) (k:=acc.length) al aj (bz (j:=15) aa) aa ai) ?_
 refine QC (dK d) (fun α=>lY (k:=acc.length) (f:=ao) (l:=acc++[d]) al aj (bz (j:=15) aa) aa hlast) ?_
 exact QE (.tuple #[dK d,.int .i64 0]) rfl
noncomputable def K6(K A:QV):SX.Cx:={ P:=Tryz.prog,R:=fun _ _ _ _=>False,shp:=fun _=>none,K:=K,A:=A,trm:=true }
theorem BV(K A:QV):(K6 K A).Ok:=SX.Cx.b6 al fun _ f xs v W h=>h.elim
def cg(k l n:Int):Prop:=(k=1∧0≤l∧l≤2∧1≤n∧n≤3)∨(k=2∧0≤l∧l≤2∧1≤n∧n≤1048576)∨(k=3∧l=0∧1≤n∧n≤16)∨(k=4∧l=0∧0≤n∧n≤16)∨(k=5∧l=0∧0≤n∧n≤500)∨(k=6∧l=0∧0≤n∧n≤1048576)
instance (k l n:Int):Decidable (cg k l n):=by unfold cg;infer_instance
structure cf where
 (no person of_ from_ to_ known kind limb n:Int)
 deriving DecidableEq,Inhabited
def bE(s:cf):List Value:=[.int .i64 s.no,.int .i64 s.person,.int .i64 s.of_,.int .i64 s.from_,.int .i64 s.to_,.int .i64 s.known,.int .i64 s.kind,.int .i64 s.limb,.int .i64 s.n]
def fU(s:cf):Value:=.agg (bE s).toArray
theorem iQ(a b:cf)(h:bE a=bE b):a=b:=by
 cases a;cases b
 simpa [bE]using h
def lQ(l:List cf):List Value:=l.flatMap bE
theorem j5(l:List cf):(lQ l).length=l.length*9:=SX.aL (f:=bE) al l
def pv:SX.Tree :=
(.df (.bin .lss 3) [(.q 0),(.i 1)] .one
(.br 3 []
(.ret (.k (.bool false)) [] [])
(.df (.bin .gtr 3) [(.q 0),(.i 6)] .one
(.br 4 []
(.ret (.k (.bool false)) [] [])
(.sp 0 [] [
(.df (.bin .lss 3) [(.q 1),(.i 0)] .one
(.br 5 []
(.ret (.k (.bool false)) [] [])
(.df (.bin .gtr 3) [(.q 1),(.i 0)] .one
(.br 6 []
(.ret (.k (.bool false)) [] [])
(.df (.bin .lss 3) [(.q 2),(.i 0)] .one
(.br 7 []
(.ret (.k (.bool false)) [] [])
(.df (.bin .gtr 3) [(.q 2),(.i 0)] .one
(.br 8 []
(.ret (.k (.bool false)) [] [])
(.ret (.k (.bool true)) [] []))))))))),
(.df (.bin .lss 3) [(.q 1),(.i 0)] .one
(.br 5 []
(.ret (.k (.bool false)) [] [])
(.df (.bin .gtr 3) [(.q 1),(.i 2)] .one
(.br 6 []
(.ret (.k (.bool false)) [] [])
(.df (.bin .lss 3) [(.q 2),(.i 1)] .one
(.br 7 []
(.ret (.k (.bool false)) [] [])
(.df (.bin .gtr 3) [(.q 2),(.i 3)] .one
(.br 8 []
(.ret (.k (.bool false)) [] [])
(.ret (.k (.bool true)) [] []))))))))),
(.df (.bin .lss 3) [(.q 1),(.i 0)] .one
(.br 5 []
(.ret (.k (.bool false)) [] [])
(.df (.bin .gtr 3) [(.q 1),(.i 2)] .one
(.br 6 []
(.ret (.k (.bool false)) [] [])
(.df (.bin .lss 3) [(.q 2),(.i 1)] .one
(.br 7 []
(.ret (.k (.bool false)) [] [])
(.df (.bin .gtr 3) [(.q 2),(.i 1048576)] .one
(.br 8 []
(.ret (.k (.bool false)) [] [])
(.ret (.k (.bool true)) [] []))))))))),
(.df (.bin .lss 3) [(.q 1),(.i 0)] .one
(.br 5 []
(.ret (.k (.bool false)) [] [])
(.df (.bin .gtr 3) [(.q 1),(.i 0)] .one
(.br 6 []
(.ret (.k (.bool false)) [] [])
(.df (.bin .lss 3) [(.q 2),(.i 1)] .one
(.br 7 []
(.ret (.k (.bool false)) [] [])
(.df (.bin .gtr 3) [(.q 2),(.i 16)] .one
(.br 8 []
(.ret (.k (.bool false)) [] [])
(.ret (.k (.bool true)) [] []))))))))),
(.df (.bin .lss 3) [(.q 1),(.i 0)] .one
(.br 5 []
(.ret (.k (.bool false)) [] [])
(.df (.bin .gtr 3) [(.q 1),(.i 0)] .one
(.br 6 []
(.ret (.k (.bool false)) [] [])
(.df (.bin .lss 3) [(.q 2),(.i 0)] .one
(.br 7 []
(.ret (.k (.bool false)) [] [])
(.df (.bin .gtr 3) [(.q 2),(.i 16)] .one
(.br 8 []
(.ret (.k (.bool false)) [] [])
(.ret (.k (.bool true)) [] []))))))))),
(.df (.bin .lss 3) [(.q 1),(.i 0)] .one
(.br 5 []
(.ret (.k (.bool false)) [] [])
(.df (.bin .gtr 3) [(.q 1),(.i 0)] .one
(.br 6 []
(.ret (.k (.bool false)) [] [])
(.df (.bin .lss 3) [(.q 2),(.i 0)] .one
(.br 7 []
(.ret (.k (.bool false)) [] [])
(.df (.bin .gtr 3) [(.q 2),(.i 500)] .one
(.br 8 []
(.ret (.k (.bool false)) [] [])
(.ret (.k (.bool true)) [] []))))))))),
(.df (.bin .lss 3) [(.q 1),(.i 0)] .one
(.br 5 []
(.ret (.k (.bool false)) [] [])
(.df (.bin .gtr 3) [(.q 1),(.i 0)] .one
(.br 6 []
(.ret (.k (.bool false)) [] [])
(.df (.bin .lss 3) [(.q 2),(.i 0)] .one
(.br 7 []
(.ret (.k (.bool false)) [] [])
(.df (.bin .gtr 3) [(.q 2),(.i 1048576)] .one
(.br 8 []
(.ret (.k (.bool false)) [] [])
(.ret (.k (.bool true)) [] [])))))))))])))))
def xl:List SX.V:=[.a [.x 0 [],.x 1 [],.x 2 []]]
theorem Bb(K A:QV):QU (K6 K A) ⟨fun _=>true,[],0,100⟩ 106 Tryz.f106 xl [.one,.one,.one]=pv:=aa
theorem Aa(k l n:Int)(w:World)  : RT 106 #[.agg #[.int .i64 k,.int .i64 l,.int .i64 n]] w (.bool (decide (cg k l n))):=by
 refine QG (Bb QW QW) [.int .i64 k,.int .i64 l,.int .i64 n] (BV _ _) Tryz.func106 ?_ ?_
 ·exact fun W _=>cD (fun _ _ _ h=>h) W
 unfold pv
 refine QB (.bool (decide (k<1))) ?_
 refine QD (decide (k<1)) (fun h3=>?_) (fun h3=>?_)
 ·try simp only [cb]at h3
  exact QE (.bool false) (QS (by simp only [QT];unfold cg;omega))
 try simp only [cb]at h3
 refine QB (.bool (decide (k>6))) ?_
 refine QD (decide (k>6)) (fun h4=>?_) (fun h4=>?_)
 ·try simp only [cb]at h4
  exact QE (.bool false) (QS (by simp only [QT];unfold cg;omega))
 try simp only [cb]at h4
 obtain⟨j,rfl⟩:∃ j:Nat,k=j:=⟨k.toNat,ab⟩
 refine Fz j (by show j<7;omega) aa fun t ht=>?_
 have hk:j=1∨j=2∨j=3∨j=4∨j=5∨j=6:=ab
 rcases hk with rfl|rfl|rfl|rfl|rfl|rfl
 ·cases (Option.some.inj ht)
  refine QB (.bool (decide (l<0))) ?_
  refine QD (decide (l<0)) (fun h5=>?_) (fun h5=>?_)
  ·try simp only [cb]at h5
   exact QE (.bool false) (QS (by simp only [QT];unfold cg;omega))
  try simp only [cb]at h5
  refine QB (.bool (decide (l>2))) ?_
  refine QD (decide (l>2)) (fun h6=>?_) (fun h6=>?_)
  ·try simp only [cb]at h6
   exact QE (.bool false) (QS (by simp only [QT];unfold cg;omega))
  try simp only [cb]at h6
  refine QB (.bool (decide (n<1))) ?_
  refine QD (decide (n<1)) (fun h7=>?_) (fun h7=>?_)
  ·try simp only [cb]at h7
   exact QE (.bool false) (QS (by simp only [QT];unfold cg;omega))
  try simp only [cb]at h7
  refine QB (.bool (decide (n>3))) ?_
  refine QD (decide (n>3)) (fun h8=>?_) (fun h8=>?_)
  ·try simp only [cb]at h8
   exact QE (.bool false) (QS (by simp only [QT];unfold cg;omega))
  try simp only [cb]at h8
  exact QE (.bool true) (QS (by simp only [QT];unfold cg;omega))
 ·cases (Option.some.inj ht)
  refine QB (.bool (decide (l<0))) ?_
  refine QD (decide (l<0)) (fun h5=>?_) (fun h5=>?_)
  ·try simp only [cb]at h5
   exact QE (.bool false) (QS (by simp only [QT];unfold cg;omega))
  try simp only [cb]at h5
  refine QB (.bool (decide (l>2))) ?_
  refine QD (decide (l>2)) (fun h6=>?_) (fun h6=>?_)
  ·try simp only [cb]at h6
   exact QE (.bool false) (QS (by simp only [QT];unfold cg;omega))
  try simp only [cb]at h6
  refine QB (.bool (decide (n<1))) ?_
  refine QD (decide (n<1)) (fun h7=>?_) (fun h7=>?_)
  ·try simp only [cb]at h7
   exact QE (.bool false) (QS (by simp only [QT];unfold cg;omega))
  try simp only [cb]at h7
  refine QB (.bool (decide (n>1048576))) ?_
  refine QD (decide (n>1048576)) (fun h8=>?_) (fun h8=>?_)
  ·try simp only [cb]at h8
   exact QE (.bool false) (QS (by simp only [QT];unfold cg;omega))
  try simp only [cb]at h8
  exact QE (.bool true) (QS (by simp only [QT];unfold cg;omega))
 ·cases (Option.some.inj ht)
  refine QB (.bool (decide (l<0))) ?_
  refine QD (decide (l<0)) (fun h5=>?_) (fun h5=>?_)
  ·try simp only [cb]at h5
   exact QE (.bool false) (QS (by simp only [QT];unfold cg;omega))
  try simp only [cb]at h5
  refine QB (.bool (decide (l>0))) ?_
  refine QD (decide (l>0)) (fun h6=>?_) (fun h6=>?_)
  ·try simp only [cb]at h6
   exact QE (.bool false) (QS (by simp only [QT];unfold cg;omega))
  try simp only [cb]at h6
  refine QB (.bool (decide (n<1))) ?_
  refine QD (decide (n<1)) (fun h7=>?_) (fun h7=>?_)
  ·try simp only [cb]at h7
   exact QE (.bool false) (QS (by simp only [QT];unfold cg;omega))
  try simp only [cb]at h7
  refine QB (.bool (decide (n>16))) ?_
  refine QD (decide (n>16)) (fun h8=>?_) (fun h8=>?_)
  ·try simp only [cb]at h8
   exact QE (.bool false) (QS (by simp only [QT];unfold cg;omega))
  try simp only [cb]at h8
  exact QE (.bool true) (QS (by simp only [QT];unfold cg;omega))
 ·cases (Option.some.inj ht)
  refine QB (.bool (decide (l<0))) ?_
  refine QD (decide (l<0)) (fun h5=>?_) (fun h5=>?_)
  ·try simp only [cb]at h5
   exact QE (.bool false) (QS (by simp only [QT];unfold cg;omega))
  try simp only [cb]at h5
  refine QB (.bool (decide (l>0))) ?_
  refine QD (decide (l>0)) (fun h6=>?_) (fun h6=>?_)
  ·try simp only [cb]at h6
   exact QE (.bool false) (QS (by simp only [QT];unfold cg;omega))
  try simp only [cb]at h6
  refine QB (.bool (decide (n<0))) ?_
  refine QD (decide (n<0)) (fun h7=>?_) (fun h7=>?_)
  ·try simp only [cb]at h7
   exact QE (.bool false) (QS (by simp only [QT];unfold cg;omega))
  try simp only [cb]at h7
  refine QB (.bool (decide (n>16))) ?_
  refine QD (decide (n>16)) (fun h8=>?_) (fun h8=>?_)
  ·try simp only [cb]at h8
   exact QE (.bool false) (QS (by simp only [QT];unfold cg;omega))
  try simp only [cb]at h8
  exact QE (.bool true) (QS (by simp only [QT];unfold cg;omega))
 ·cases (Option.some.inj ht)
  refine QB (.bool (decide (l<0))) ?_
  refine QD (decide (l<0)) (fun h5=>?_) (fun h5=>?_)
  ·try simp only [cb]at h5
   exact QE (.bool false) (QS (by simp only [QT];unfold cg;omega))
  try simp only [cb]at h5
  refine QB (.bool (decide (l>0))) ?_
  refine QD (decide (l>0)) (fun h6=>?_) (fun h6=>?_)
  ·try simp only [cb]at h6
   exact QE (.bool false) (QS (by simp only [QT];unfold cg;omega))
  try simp only [cb]at h6
  refine QB (.bool (decide (n<0))) ?_
  refine QD (decide (n<0)) (fun h7=>?_) (fun h7=>?_)
  ·try simp only [cb]at h7
   exact QE (.bool false) (QS (by simp only [QT];unfold cg;omega))
  try simp only [cb]at h7
  refine QB (.bool (decide (n>500))) ?_
  refine QD (decide (n>500)) (fun h8=>?_) (fun h8=>?_)
  ·try simp only [cb]at h8
   exact QE (.bool false) (QS (by simp only [QT];unfold cg;omega))
  try simp only [cb]at h8
  exact QE (.bool true) (QS (by simp only [QT];unfold cg;omega))
 cases (Option.some.inj ht)
 refine QB (.bool (decide (l<0))) ?_
 refine QD (decide (l<0)) (fun h5=>?_) (fun h5=>?_)
 ·try simp only [cb]at h5
  exact QE (.bool false) (QS (by simp only [QT];unfold cg;omega))
 try simp only [cb]at h5
 refine QB (.bool (decide (l>0))) ?_
 refine QD (decide (l>0)) (fun h6=>?_) (fun h6=>?_)
 ·try simp only [cb]at h6
  exact QE (.bool false) (QS (by simp only [QT];unfold cg;omega))
 try simp only [cb]at h6
 refine QB (.bool (decide (n<0))) ?_
 refine QD (decide (n<0)) (fun h7=>?_) (fun h7=>?_)
 ·try simp only [cb]at h7
  exact QE (.bool false) (QS (by simp only [QT];unfold cg;omega))
 try simp only [cb]at h7
 refine QB (.bool (decide (n>1048576))) ?_
 refine QD (decide (n>1048576)) (fun h8=>?_) (fun h8=>?_)
 ·try simp only [cb]at h8
  exact QE (.bool false) (QS (by simp only [QT];unfold cg;omega))
 try simp only [cb]at h8
 exact QE (.bool true) (QS (by simp only [QT];unfold cg;omega))
def bt(l:List W8):ByteArray:=⟨(l.map UInt8.ofBitVec).toArray⟩
theorem BO{C:SX.Cx}{ρ:List Value}{α:Nat→SX.AV}{c:SX.V}{l:List W8}(h:ae (c.den ρ α)=l.flatMap c8):cZ.rel C ρ α .b2s [c] (.string (bt l)):=by
 refine⟨l.map UInt8.ofBitVec,?_,rfl⟩
 rw [h,List.map_map]
 clear h
 induction l with
 | nil=>rfl
 | cons a l ih=>rw [List.flatMap_cons,ih];rfl
def fL:ByteArray:=⟨#[108,105,109,105,116]⟩
def gU:ByteArray:=⟨#[108,105,109,105,116,115]⟩
def aC(at_:Int)(x:cf)(salt:Int):List Fl:=[.s fL,.n at_,.n x.no,.n x.person,.n x.of_,.n x.from_,.n x.to_,.n x.known,.n x.kind,.n x.limb,.n x.n,.n salt]
def bJ(person count:Int)(root:Dg):List Fl:=[.s gU,.n person,.n count,.s (bt (cr root))]
def sj:SX.Tree :=
(.df (.apo 4 56 (.own 4 [(.i 1),(.q 0),(.k (.string ⟨#[]⟩)),(.k (.slice none 0 0))])) [(.a [(.i 2),(.i 0),(.k (.string ⟨#[108,105,109,105,116]⟩)),(.k (.slice none 0 0))]),(.sl 5 0 1 1)] .any
(.df (.dN 4 56 (.own 4 [(.i 1),(.x 1 [0]),(.k (.string ⟨#[]⟩)),(.k (.slice none 0 0))])) [(.cat [(.q 3)]),(.sl 7 0 1 1)] .any
(.df (.dN 4 56 (.own 4 [(.i 1),(.x 1 [1]),(.k (.string ⟨#[]⟩)),(.k (.slice none 0 0))])) [(.cat [(.q 3),(.q 4)]),(.sl 9 0 1 1)] .any
(.df (.dN 4 56 (.own 4 [(.i 1),(.x 1 [2]),(.k (.string ⟨#[]⟩)),(.k (.slice none 0 0))])) [(.cat [(.q 3),(.q 4),(.q 5)]),(.sl 11 0 1 1)] .any
(.df (.dN 4 56 (.own 4 [(.i 1),(.x 1 [3]),(.k (.string ⟨#[]⟩)),(.k (.slice none 0 0))])) [(.cat (QK 3 4)),(.sl 13 0 1 1)] .any
(.df (.dN 4 56 (.own 4 [(.i 1),(.x 1 [4]),(.k (.string ⟨#[]⟩)),(.k (.slice none 0 0))])) [(.cat (QK 3 5)),(.sl 15 0 1 1)] .any
(.df (.dN 4 56 (.own 4 [(.i 1),(.x 1 [5]),(.k (.string ⟨#[]⟩)),(.k (.slice none 0 0))])) [(.cat (QK 3 6)),(.sl 17 0 1 1)] .any
(.df (.dN 4 56 (.own 4 [(.i 1),(.x 1 [6]),(.k (.string ⟨#[]⟩)),(.k (.slice none 0 0))])) [(.cat (QK 3 7)),(.sl 19 0 1 1)] .any
(.df (.dN 4 56 (.own 4 [(.i 1),(.x 1 [7]),(.k (.string ⟨#[]⟩)),(.k (.slice none 0 0))])) [(.cat (QK 3 8)),(.sl 21 0 1 1)] .any
(.df (.dN 4 56 (.own 4 [(.i 1),(.x 1 [8]),(.k (.string ⟨#[]⟩)),(.k (.slice none 0 0))])) [(.cat (QK 3 9)),(.sl 23 0 1 1)] .any
(.df (.dN 4 56 (.own 4 [(.i 1),(.q 2),(.k (.string ⟨#[]⟩)),(.k (.slice none 0 0))])) [(.cat (QK 3 10)),(.sl 25 0 1 1)] .any
(.df (.callg 83 [.no] [(.row 4 (QK 3 11))]) [(.a [(.i 3),(.i 0),(.k (.string ⟨#[]⟩)),(.row 26)]),(.row 26)] (.tp [(.sl 1),.one])
(.ret (.row 28) (List.replicate 28 none++[(some ⟨[(.x 14 [0])],0,(.ext 1)⟩)]) [])))))))))))))
def zC:List SX.V:=[.x 0 [],.a ((List.range 9).map fun j=>.x 1 [j]),.x 2 []]
theorem Ez(K A:QV):QU (Jh K A) ⟨fun f=>true,[],2,100⟩ 32 Tryz.f32 zC [.one,.ag 9,.one]=sj:=aa
theorem qY(at_ salt:Int)(x:cf)(w:World)(hf:∀ z∈aC at_ x salt,z.fits):RS 32 #[.int .i64 at_,fU x,.int .i64 salt] w 1 ((aG (aC at_ x salt)).flatMap c8):=by
 refine QG (Ez QW QW) [.int .i64 at_,fU x,.int .i64 salt] (LR _ _) Tryz.func32 ?_ ?_
 ·exact fun W hW v z xs h=>h.elim
 unfold sj
 refine QC (.agg (([Fl.s fL]++[Fl.n at_]).flatMap aR).toArray) (fun α=>vg (f:=aR) (l1:=[Fl.s fL]) (l2:=[Fl.n at_]) aY bM aj aa (aS aa) ai ai ai) ?_
 refine QC (.agg (([Fl.n x.no]:List Fl).flatMap aR).toArray) (fun α=>az (f:=aR) (l1:=[.s fL,.n at_]) (l2:=[Fl.n x.no]) aY bM aj aa (aS aa) ai ai) ?_
 refine QC (.agg (([Fl.n x.person]:List Fl).flatMap aR).toArray) (fun α=>az (f:=aR) (l1:=[.s fL,.n at_,.n x.no]) (l2:=[Fl.n x.person]) aY bM aj aa (aS aa) ai ai) ?_
 refine QC (.agg (([Fl.n x.of_]:List Fl).flatMap aR).toArray) (fun α=>az (f:=aR) (l1:=[.s fL,.n at_,.n x.no,.n x.person]) (l2:=[Fl.n x.of_]) aY bM aj aa (aS aa) ai ai) ?_
 refine QC (.agg (([Fl.n x.from_]:List Fl).flatMap aR).toArray) (fun α=>az (f:=aR) (l1:=[.s fL,.n at_,.n x.no,.n x.person,.n x.of_]) (l2:=[Fl.n x.from_]) aY bM aj aa (aS aa) ai ai) ?_
 refine QC (.agg (([Fl.n x.to_]:List Fl).flatMap aR).toArray) (fun α=>az (f:=aR) (l1:=[.s fL,.n at_,.n x.no,.n x.person,.n x.of_,.n x.from_]) (l2:=[Fl.n x.to_]) aY bM aj aa (aS aa) ai ai) ?_
 refine QC (.agg (([Fl.n x.known]:List Fl).flatMap aR).toArray) (fun α=>az (f:=aR) (l1:=[.s fL,.n at_,.n x.no,.n x.person,.n x.of_,.n x.from_,.n x.to_]) (l2:=[Fl.n x.known]) aY bM aj aa (aS aa) ai ai) ?_
 refine QC (.agg (([Fl.n x.kind]:List Fl).flatMap aR).toArray) (fun α=>az (f:=aR) (l1:=[.s fL,.n at_,.n x.no,.n x.person,.n x.of_,.n x.from_,.n x.to_,.n x.known]) (l2:=[Fl.n x.kind]) aY bM aj aa (aS aa) ai ai) ?_
 refine QC (.agg (([Fl.n x.limb]:List Fl).flatMap aR).toArray) (fun α=>az (f:=aR) (l1:=[.s fL,.n at_,.n x.no,.n x.person,.n x.of_,.n x.from_,.n x.to_,.n x.known,.n x.kind]) (l2:=[Fl.n x.limb]) aY bM aj aa (aS aa) ai ai) ?_
 refine QC (.agg (([Fl.n x.n]:List Fl).flatMap aR).toArray) (fun α=>az (f:=aR) (l1:=[.s fL,.n at_,.n x.no,.n x.person,.n x.of_,.n x.from_,.n x.to_,.n x.known,.n x.kind,.n x.limb]) (l2:=[Fl.n x.n]) aY bM aj aa (aS aa) ai ai) ?_
 refine QC (.agg (([Fl.n salt]:List Fl).flatMap aR).toArray) (fun α=>az (f:=aR) (l1:=[.s fL,.n at_,.n x.no,.n x.person,.n x.of_,.n x.from_,.n x.to_,.n x.known,.n x.kind,.n x.limb,.n x.n]) (l2:=[Fl.n salt]) aY bM aj aa (aS aa) ai ai) ?_
 generalize hfl:aC at_ x salt=fl at *
 have hfll:fl.length≤1048576:=by rw [← hfl];simp [aC,bJ]
 refine aO (.tuple #[.agg ((aG fl).flatMap c8).toArray,.int .i64 0]) (fun α=>⟨[⟨.agg #[.int .i64 3,.int .i64 0,.string ⟨#[]⟩,(α 26).h],0,[]⟩],[⟨(α 26).h,4,gS fl⟩],QP,⟨by rw [← hfl];kernel_rfl,trivial⟩,⟨rfl,(α 26).h,fl,rfl,.inr ai,hfll,hf,rfl⟩,ap rfl⟩) (lJ _ _) ?_
 exact aK fun α W _ hR hS=>⟨hS.below,(α 28).h,aa,aH.vD hS (n:=28) (b:=(⟨[(.x 14 [0])],0,(.ext 1)⟩:ak)) aa rfl (hR 28 _ aa) (Eq.trans (b:=[Value.agg ((aG fl).flatMap c8).toArray].flatMap ae) aa (by simp [ae])) (fun W2 s z xs hk=>nomatch hk) (fun B s z xs hk=>nomatch hk)⟩
def aX(person count:Int)(root:Dg)(E S:Int):Value:=.agg ([Value.int .i64 person,Value.int .i64 count]++ao root++[Value.int .i64 E,Value.int .i64 S]).toArray
def nX:SX.Tree :=
(.df (.apo 4 56 (.own 4 [(.i 1),(.x 0 [0]),(.k (.string ⟨#[]⟩)),(.k (.slice none 0 0))])) [(.a [(.i 2),(.i 0),(.k (.string ⟨#[108,105,109,105,116,115]⟩)),(.k (.slice none 0 0))]),(.sl 5 0 1 1)] .any
(.df (.dN 4 56 (.own 4 [(.i 1),(.x 0 [1]),(.k (.string ⟨#[]⟩)),(.k (.slice none 0 0))])) [(.cat [(.q 1)]),(.sl 7 0 1 1)] .any
(.df .b2s [(.a (QJ 0 2 32))] .one
(.df (.dN 4 56 (.own 4 [(.i 2),(.i 0),(.q 3),(.k (.slice none 0 0))])) [(.cat [(.q 1),(.q 2)]),(.sl 16 0 1 1)] .any
(.df (.callg 83 [.no] [(.row 4 [(.q 1),(.q 2),(.q 4)])]) [(.a [(.i 3),(.i 0),(.k (.string ⟨#[]⟩)),(.row 17)]),(.row 17)] (.tp [(.sl 1),.one])
(.ret (.row 19) (List.replicate 19 none++[(some ⟨[(.x 5 [0])],0,(.ext 1)⟩)]) []))))))
def vk:List SX.V:=[.a ([.x 0 [0],.x 0 [1]]++((List.range 32).map fun j=>.x 0 [2+j])++[.x 0 [34],.x 0 [35]])]
theorem yU(K A:QV):QU (Jh K A) ⟨fun f=>true,[],2,100⟩ 21 Tryz.f21 vk [.ag 36]=nX:=aa
theorem r6(person count E S:Int)(root:Dg)(w:World)(hf:∀ z∈bJ person count root,z.fits):RS 21 #[aX person count root E S] w 1 ((aG (bJ person count root)).flatMap c8):=by
 refine QG (yU QW QW) [aX person count root E S] (LR _ _) Tryz.func21 ?_ ?_
 ·exact fun W hW v z xs h=>h.elim
 unfold nX
 refine QC (.agg (([Fl.s gU]++[Fl.n person]).flatMap aR).toArray) (fun α=>vg (f:=aR) (l1:=[Fl.s gU]) (l2:=[Fl.n person]) aY bM aj aa (aS aa) ai ai ai) ?_
 refine QC (.agg (([Fl.n count]:List Fl).flatMap aR).toArray) (fun α=>az (f:=aR) (l1:=[.s gU,.n person]) (l2:=[Fl.n count]) aY bM aj aa (aS aa) ai ai) ?_
 refine QC (.string (bt (cr root))) (fun α=>BO (l:=cr root) aa) ?_
 refine QC (.agg (([Fl.s (bt (cr root))]:List Fl).flatMap aR).toArray) (fun α=>az (f:=aR) (l1:=[.s gU,.n person,.n count]) (l2:=[Fl.s (bt (cr root))]) aY bM aj aa (aS aa) ai ai) ?_
 generalize hfl:bJ person count root=fl at *
 have hfll:fl.length≤1048576:=by rw [← hfl];simp [aC,bJ]
 refine aO (.tuple #[.agg ((aG fl).flatMap c8).toArray,.int .i64 0]) (fun α=>⟨[⟨.agg #[.int .i64 3,.int .i64 0,.string ⟨#[]⟩,(α 17).h],0,[]⟩],[⟨(α 17).h,4,gS fl⟩],QP,⟨by rw [← hfl];kernel_rfl,trivial⟩,⟨rfl,(α 17).h,fl,rfl,.inr ai,hfll,hf,rfl⟩,ap rfl⟩) (lJ _ _) ?_
 exact aK fun α W _ hR hS=>⟨hS.below,(α 19).h,aa,aH.vD hS (n:=19) (b:=(⟨[(.x 5 [0])],0,(.ext 1)⟩:ak)) aa rfl (hR 19 _ aa) (Eq.trans (b:=[Value.agg ((aG fl).flatMap c8).toArray].flatMap ae) aa (by simp [ae])) (fun W2 s z xs hk=>nomatch hk) (fun B s z xs hk=>nomatch hk)⟩
def qU(l:List Int):List Value:=l.flatMap fun k=>[Value.int .i64 k]
def gJ(t:dY):Value:=.slice t.1 t.2.1 t.2.2
def pU(ls:List cf)(ss:List Int)(i:Nat):List W8:=aG (aC (i:Int) (ls.getD i default) (ss.getD i 0))
def Qy(K:QV)(f:FuncId)(xs:List SX.Arg)(Q:Value→List SX.Arg→Prop):Prop:=f=32∧∃ (k s:Int) (x:cf),xs=[⟨.int .i64 k,0,[]⟩,⟨fU x,0,[]⟩,⟨.int .i64 s,0,[]⟩]∧(∀ z∈aC k x s,z.fits)∧∀ A n c,Q (.slice A n c) [⟨.slice A n c,1,(aG (aC k x s)).flatMap c8⟩]
noncomputable def Dt(nb:Nat)(K A:QV):SX.Cx:={ nsh:=fun f=>if f=32 then some .one else none,Rn:=Qy,nb:=nb,P:=Tryz.prog,R:=fun _ _ _ _=>False,shp:=fun _=>none,K:=K,A:=A,trm:=true,tl:=[32] }
theorem Pm(nb:Nat)(K A:QV):(Dt nb K A).Ok:=by
 refine SX.Cx.mo al (fun K f xs v W hR _ _=>hR.elim) fun f sh hs K xs Q W h hrd hK=>?_
 obtain⟨rfl,k,s,x,rfl,hf,hQ⟩:=h
 have hs:some SX.Sh.one=some sh:=hs
 cases hs
 refine(qY k s x W hf).mono fun e w' ⟨h1,hdr,h2,⟨A2,n2,c2,h3,_⟩,h4,h5⟩=>?_
 subst h3
 refine⟨h1,_,_,h2,rfl,hQ A2 n2 c2,fun y hy=>?_⟩
 obtain rfl:y=⟨.slice A2 n2 c2,1,(aG (aC k x s)).flatMap c8⟩:=af hy
 exact⟨h4,h5.resolve_right fun⟨y,hy,_⟩=>nomatch hy⟩
def nW:SX.Tree :=
(.df (.len false) [(.q 0)] .one
(.loop [(.i 0),(.cat [])] [.one,.any]
(.df (.bin .lss 3) [(.q 3),(.q 2)] .one
(.br 5 []
(.df .bnd [(.q 0),(.q 3)] .one
(.df (.elems 9 0 9) [(.q 0),(.q 3)] (.ag 9)
(.df .bnd [(.q 1),(.q 3)] .one
(.df (.elem 1 0) [(.q 1),(.q 3)] .one
(.df (.callq 32 [.no,.no,.no]) [(.q 3),(.a (QJ 7 0 9)),(.q 9)] .one
(.df (.dN 1 24 (.own 1 [(.q 10)])) [(.cat [(.q 4)]),(.sl 5 0 1 1)] .any
(.df (.bin .add 3) [(.q 3),(.i 1)] .one
(.again 0 [(.q 12),(.cat [(.q 4),(.q 11)])]))))))))
(.ret (.row 3) [none,none,none,(some ⟨[(.q 4)],46,(.row 1)⟩)] [])))))
def vi:List SX.V:=[.a [.x 0 [],.x 1 []]]
def Di:kp:=⟨fun f=>f != 32,[⟨19,2,[(.s 8,.one),(.s 2,.row 1 46)]⟩],12,100⟩
theorem yT(nb:Nat)(K A:QV):QU (Dt nb K A) Di 19 Tryz.f19 vi [.one,.one]=nW:=aa
theorem At(ls:List cf)(ss:List Int)(A:Option Addr)(n c:Nat)(B:Option Addr)(m d:Nat)(w:World)(hr:Rd w 9 A n (lQ ls))(hc:n≤c)(hr2:Rd w 1 B m (qU ss))(hd:m≤d)(hnm:ls.length=ss.length)(hl:ls.length≤1000000)(hf:∀ i,i<ls.length→∀ z∈aC (i:Int) (ls.getD i default) (ss.getD i 0),z.fits):Calls Tryz.prog 19 #[.agg #[.slice A n c,.slice B m d]] w fun e w'=>Below w.heap.size w w'∧∃ (hdr:Value)(hs:List dY),e=.returned hdr∧hs.length=ls.length∧aH w w' [] hdr 1 (hs.flatMap aA)∧∀ j h,hs[j]?=some h→aH w w' [] (gJ h) 1 ((pU ls ss j).flatMap c8):=by
 refine QG (yT w.heap.size (KW w) QW) [.slice A n c,.slice B m d] (Pm _ _ _) Tryz.func19 ?_ ?_ ⟨rfl,Nat.le_refl _⟩
 ·exact fun W hW v z xs h=>h W hW
 have hA:=SX.rd_some hr
 have hB:=SX.rd_some hr2
 have hln:ls.length=n:=by have:=hr.1;rw [j5]at this;omega
 have hlm:ss.length=m:=by
  have h1:=hr2.1
  have h2:(qU ss).length=ss.length*1:=SX.aL (f:=fun k:Int=>[Value.int .i64 k]) al ss
  omega
 have hK1:∀ N,((Dt w.heap.size (KW w) QW).plus N).K (.slice A n c) 9 (lQ ls):=fun N=>zr (C:=Dt w.heap.size (KW w) QW) fun W hW=>⟨hr.aJ hW,hc⟩
 have hK2:∀ N,((Dt w.heap.size (KW w) QW).plus N).K (.slice B m d) 1 (qU ss):=fun N=>zr (C:=Dt w.heap.size (KW w) QW) fun W hW=>⟨hr2.aJ hW,hd⟩
 unfold nW
 refine QB (.int .i64 (n:Int)) ?_
 refine mZ (fun xs N=>∃ hs:List dY,xs=[.int .i64 ((hs.length:Nat):Int),.agg (hs.flatMap aA).toArray]∧hs.length≤n∧∀ j h,hs[j]?=some h→(⟨gJ h,1,(pU ls ss j).flatMap c8⟩:SX.Arg)∈N) (fun xs=>match xs with|.int _ i::_=>n-i.toNat|_=>0) al (fun α=>⟨[],(fun y hy=>nomatch hy),[],aa,ai,fun j h hh=>nomatch hh⟩) ?_
 rintro xs N-⟨hs,rfl,hle,hN⟩
 refine QF (.bool (decide (hs.length<n))) (dD hs.length n) ?_
 refine QD (decide (hs.length<n)) (fun h1=>?_) (fun h1=>?_)
 ·have h1:hs.length<n:=af h1
  obtain⟨x,hx⟩:∃ x,ls[hs.length]?=some x:=⟨_,List.getElem?_eq_getElem ab⟩
  obtain⟨s,hs1⟩:∃ s,ss[hs.length]?=some s:=⟨_,List.getElem?_eq_getElem ab⟩
  have hxd:ls.getD hs.length default=x:=by rw [List.getD_eq_getElem?_getD,hx];rfl
  have hsd:ss.getD hs.length 0=s:=by rw [List.getD_eq_getElem?_getD,hs1];rfl
  have hfi:=hf hs.length ab
  have hT:pU ls ss hs.length=aG (aC ((hs.length:Nat):Int) x s):=by unfold pU;rw [hxd,hsd]
  rw [hxd,hsd]at hfi
  refine QM A n c hs.length hA h1 ?_
  refine QN (f:=bE) (l:=ls) (fU x) A n c hs.length x hA h1 (hK1 _) hx ?_
  refine QM B m d hs.length hB ab ?_
  refine QC (.int .i64 s) (fun α=>cS (o:=0) (v:=.int .i64 s) (f:=fun k:Int=>[Value.int .i64 k]) (l:=ss) (A:=B) (n:=m) (c:=d) (j:=hs.length) (z:=s) al hB aa aa ab (hK2 _) hs1 aj aa) ?_
  refine dM (fun v N3=>∃ A2 n2 c2,v=.slice A2 n2 c2∧N3=[⟨.slice A2 n2 c2,1,(pU ls ss hs.length).flatMap c8⟩]) al (fun α=>⟨[⟨.int .i64 ((hs.length:Nat):Int),0,[]⟩,⟨fU x,0,[]⟩,⟨.int .i64 s,0,[]⟩],QR,rfl,_,s,x,rfl,hfi,fun A2 n2 c2=>⟨A2,n2,c2,rfl,by rw [hT]⟩⟩) ?_
  rintro _ _-⟨A2,n2,c2,rfl,rfl⟩
  refine QC (.agg ([((A2,n2,c2):dY)].flatMap aA).toArray) (fun α=>az (f:=aA) (l1:=hs) (l2:=[((A2,n2,c2):dY)]) al cB aj (bz (j:=4) aa) (aS aa) aw aw) ?_
  refine QF (.int .i64 ((hs.length+1:Nat):Int)) (cC (a:=hs.length) (b:=1) (d:=hs.length+1) rfl ab) ?_
  exact bO fun α=>⟨rfl,_,(fun y hy=>hy),⟨hs++[(A2,n2,c2)],Eq.trans (b:=[.int .i64 ((hs.length+1:Nat):Int),.agg ([Value.agg (hs.flatMap aA).toArray,.agg ([((A2,n2,c2):dY)].flatMap aA).toArray].flatMap ae).toArray]) aa (by simp [ae]),aw,fun j h hh=>by
   rcases Nat.lt_or_ge j hs.length with hj|hj
   ·rw [List.getElem?_append_left hj]at hh
    exact List.mem_append_right _ (hN j h hh)
   rw [List.getElem?_append_right hj]at hh
   have hj2:j=hs.length:=by have:=(List.getElem?_eq_some_iff.1 hh).1;simp at this;omega
   subst hj2
   simp at hh
   subst hh
   exact List.mem_append_left _ (List.mem_singleton.2 rfl)⟩,cast aa (show n-((hs.length+1:Nat):Int).toNat<n-((hs.length:Nat):Int).toNat by omega)⟩
 have h1:¬ hs.length<n:=af h1
 refine aK fun α W _ hrow hS=>⟨hS.below,_,hs,aa,ab,aH.row hS (n:=3) (b:=(⟨[(.x 4 [])],46,(.row 1)⟩:ak)) aa rfl (hrow 3 _ aa) (Eq.trans (b:=[Value.agg (hs.flatMap aA).toArray].flatMap ae) aa (by simp [ae])),fun j h hh=>?_⟩
 have hN2:=hS.fact (p:=SX.NF _) (List.mem_append.2 (.inr (List.mem_cons_of_mem _ (List.mem_cons_self ..)))) ⟨gJ h,1,(pU ls ss j).flatMap c8⟩ (hN j h hh)
 exact⟨⟨h.1,h.2.1,h.2.2,rfl,hN2.1.2⟩,hN2.1,.inl hN2.2⟩
def CR(nx:Nat)(l:List Qe)(key:Value)(cs:List Value)(nx':Nat)(l':List Qe):Prop:=((∀ q∈l,q.key≠key)∧nx'=nx+1∧l'=l++[⟨key,cs,nx⟩])∨∃ j q,l[j]?=some q∧q.key=key∧nx'=nx∧l'=l.set j ⟨key,cs,q.born⟩
def KL(l:List Qe)(key:Value)(l':List Qe):Prop:=((∀ q∈l,q.key≠key)∧l'=l)∨∃ j q,l[j]?=some q∧q.key=key∧l'=l.eraseIdx j
def zl{κ β:Type} [DecidableEq κ] (F:κ→Option β)(i:κ)(o:Option β):κ→Option β:=fun j=>if j=i then o else F j
theorem CR.keys{nx nx':Nat}{l l':List Qe}{key:Value}{cs:List Value}{G:Value→Prop}(h:CR nx l key cs nx' l')(hk:∀ e∈l,G e.key)(hg:G key):∀ e∈l',G e.key:=by
 rcases h with ⟨_,rfl,rfl⟩|⟨j,q,h1,h2,rfl,rfl⟩
 ·intro e he
  rcases List.mem_append.1 he with he|he
  ·exact hk e he
  obtain rfl:=List.mem_singleton.1 he;exact hg
 intro e he
 rcases List.mem_or_eq_of_mem_set he with he|rfl
 ·exact hk e he
 exact hg
theorem KL.keys{l l':List Qe}{key:Value}{G:Value→Prop}(h:KL l key l')(hk:∀ e∈l,G e.key):∀ e∈l',G e.key:=by
 rcases h with ⟨_,rfl⟩|⟨j,q,_,_,rfl⟩
 ·exact hk
 exact fun e he=>hk e (List.mem_of_mem_eraseIdx he)
structure jf{κ β:Type}(key:κ→Value)(f:β→List Value)(l:List Qe)(F:κ→Option β):Prop where
 nod:(l.map Qe.key).Nodup
 ent:∀ e∈l,∃ i x,e.key=key i∧e.cs=f x∧F i=some x
 all:∀ i x,F i=some x→∃ e∈l,e.key=key i
section
variable {κ β:Type}{key:κ→Value}{f:β→List Value}{l:List Qe}{F:κ→Option β}{i:κ}
theorem jf.zero:jf key f [] fun _=>none:=⟨List.nodup_nil,(fun e he=>nomatch he),(fun i x h=>nomatch h)⟩
theorem jf.no(h:jf key f l F)(hk:∀ a b,key a=key b→a=b)(hF:F i=none):∀ q∈l,q.key≠key i:=fun q hq e=>by
 obtain⟨j,x,h1,h2,h3⟩:=h.ent q hq
 have:=hk _ _ (h1.symm.trans e)
 subst this
 rw [hF]at h3;cases h3
theorem jf.yes(h:jf key f l F)(hk:∀ a b,key a=key b→a=b){x:β}(hF:F i=some x):∃ q∈l,q.key=key i∧q.cs=f x:=by
 obtain⟨q,hq,h1⟩:=h.all i x hF
 obtain⟨j,y,h2,h3,h4⟩:=h.ent q hq
 have:=hk _ _ (h1.symm.trans h2)
 subst this
 rw [hF]at h4;cases h4
 exact⟨q,hq,h1,h3⟩
variable [DecidableEq κ]
theorem l8(F:κ→Option β)(i:κ)(o:Option β):zl F i o i=o:=if_pos rfl
theorem gz(F:κ→Option β){i j:κ}(o:Option β)(h:j≠i):zl F i o j=F j:=if_neg h
theorem jf.put(h:jf key f l F)(hk:∀ a b,key a=key b→a=b)(nx:Nat)(i:κ)(x:β):∃ nx' l',CR nx l (key i) (f x) nx' l'∧jf key f l' (zl F i (some x)):=by
 cases hF:F i with
 | none =>
  have hno:=h.no hk hF
  refine⟨_,_,.inl ⟨hno,rfl,rfl⟩,?_,fun e he=>?_,fun j y hj=>?_⟩
  ·rw [List.map_append,List.nodup_append]
   refine⟨h.nod,ai,fun a ha b hb=>?_⟩
   obtain⟨q,hq,rfl⟩:=List.mem_map.1 ha
   simp only [List.map_cons,List.map_nil,List.mem_singleton]at hb
   rw [hb];exact hno q hq
  ·rcases List.mem_append.1 he with he|he
   ·obtain⟨j,y,h1,h2,h3⟩:=h.ent e he
    refine⟨j,y,h1,h2,?_⟩
    rw [gz _ _ fun hj=>hno e he (by rw [h1,hj])];exact h3
   obtain rfl:=List.mem_singleton.1 he
   exact⟨i,x,rfl,rfl,l8 ..⟩
  by_cases hji:j=i
  ·subst hji;exact⟨_,List.mem_append_right _ (List.mem_singleton.2 rfl),rfl⟩
  rw [gz _ _ hji]at hj
  obtain⟨e,he,h1⟩:=h.all j y hj
  exact⟨e,List.mem_append_left _ he,h1⟩
 | some x0 =>
  obtain⟨q,hq,h1,h2⟩:=h.yes hk hF
  obtain⟨n,hn⟩:=List.getElem?_of_mem hq
  have hnl:=(List.getElem?_eq_some_iff.1 hn).1
  have hkeys:(l.set n (⟨key i,f x,q.born⟩:Qe)).map Qe.key=l.map Qe.key:=by
   rw [List.map_set]
   apply List.ext_getElem?
   intro m
   by_cases hm:n=m
   ·subst hm;rw [List.getElem?_set_self (af hnl),List.getElem?_map,hn];simp [h1]
   rw [List.getElem?_set_ne hm]
  refine⟨nx,_,.inr ⟨n,q,hn,h1,rfl,rfl⟩,by rw [hkeys];exact h.nod,fun e he=>?_,fun j y hj=>?_⟩
  ·obtain⟨m,hm⟩:=List.getElem?_of_mem he
   by_cases hnm:n=m
   ·subst hnm
    rw [List.getElem?_set_self hnl]at hm
    cases hm
    exact⟨i,x,rfl,rfl,l8 ..⟩
   rw [List.getElem?_set_ne hnm]at hm
   obtain⟨j,y,h3,h4,h5⟩:=h.ent e (List.mem_of_getElem? hm)
   refine⟨j,y,h3,h4,?_⟩
   rw [gz _ _ fun hj=>hnm (kP h.nod hn hm (by rw [h1,h3,hj]))];exact h5
  by_cases hji:j=i
  ·subst hji;exact⟨_,List.mem_of_getElem? (List.getElem?_set_self hnl),rfl⟩
  rw [gz _ _ hji]at hj
  obtain⟨e,he,h3⟩:=h.all j y hj
  obtain⟨m,hm⟩:=List.getElem?_of_mem he
  have hnm:n≠m:=fun hnm=>by subst hnm;rw [hn]at hm;cases hm;exact hji (hk _ _ (h3.symm.trans h1))
  exact⟨e,List.mem_of_getElem? ((List.getElem?_set_ne hnm).trans hm),h3⟩
theorem jf.del(h:jf key f l F)(hk:∀ a b,key a=key b→a=b)(i:κ):∃ l',KL l (key i) l'∧jf key f l' (zl F i none):=by
 cases hF:F i with
 | none =>
  refine⟨_,.inl ⟨h.no hk hF,rfl⟩,h.nod,fun e he=>?_,fun j y hj=>?_⟩
  ·obtain⟨j,y,h1,h2,h3⟩:=h.ent e he
   refine⟨j,y,h1,h2,?_⟩
   rw [gz _ _ fun hj=>h.no hk hF e he (by rw [h1,hj])];exact h3
  by_cases hji:j=i
  ·subst hji;rw [l8]at hj;cases hj
  rw [gz _ _ hji]at hj;exact h.all j y hj
 | some x0 =>
  obtain⟨q,hq,h1,h2⟩:=h.yes hk hF
  obtain⟨n,hn⟩:=List.getElem?_of_mem hq
  have hmem:∀ e,e∈l.eraseIdx n↔e∈l∧e.key≠key i:=by
   intro e
   rw [List.mem_eraseIdx_iff_getElem?]
   constructor
   ·rintro⟨m,hm,he⟩
    exact⟨List.mem_of_getElem? he,fun hke=>hm (kP h.nod he hn (hke.trans h1.symm))⟩
   rintro⟨he,hne⟩
   obtain⟨m,hm⟩:=List.getElem?_of_mem he
   exact⟨m,fun hmn=>by subst hmn;rw [hn]at hm;cases hm;exact hne h1,hm⟩
  refine⟨_,.inr ⟨n,q,hn,h1,rfl⟩,?_,fun e he=>?_,fun j y hj=>?_⟩
  ·exact h.nod.sublist ((List.eraseIdx_sublist ..).map _)
  ·obtain⟨h3,h4⟩:=(hmem e).1 he
   obtain⟨j,y,h5,h6,h7⟩:=h.ent e h3
   refine⟨j,y,h5,h6,?_⟩
   rw [gz _ _ fun hj=>h4 (by rw [h5,hj])];exact h7
  by_cases hji:j=i
  ·subst hji;rw [l8]at hj;cases hj
  rw [gz _ _ hji]at hj
  obtain⟨e,he,h3⟩:=h.all j y hj
  exact⟨e,(hmem e).2 ⟨he,fun h4=>hji (hk _ _ (h3.symm.trans h4))⟩,h3⟩
end
namespace SX
section
variable {C:Cx}{ρ:List Value}{α:Nat→AV}{κ β:Type}{key:κ→Value}{f:β→List Value}{l:List Qe}{F:κ→Option β}{i:κ}{kt:TypeId}{k nx:Nat}{c x:V}
theorem Cf(h:jf key f l F)(hf:∀ x,(f x).length=k){G:Value→Prop}(hK:kq C.P kt G)(hk:∀ e∈l,G e.key)(hki:G (key i))(hc:ae (c.den ρ α)=bV nx l)(hx:x.den ρ α=key i):xe C.P kt k (ae (c.den ρ α)) (x.den ρ α) nx l :=
 ⟨hc,fun e he=>by obtain⟨j,y,_,h2,_⟩:=h.ent e he;rw [h2];exact hf y,h.nod,G,hK,hk,by rw [hx];exact hki⟩
theorem vR{ok ag:Bool}{z v:Value}(h:jf key f l F)(hinj:∀ a b,key a=key b→a=b)(hf:∀ x,(f x).length=k){G:Value→Prop}(hK:kq C.P kt G)(hk:∀ e∈l,G e.key)(hki:G (key i))(hc:ae (c.den ρ α)=bV nx l)(hx:x.den ρ α=key i)
 (hv:v=match F i with|some y=>if ok then .tuple #[tP ag (f y),.bool true]else tP ag (f y)|none=>if ok then .tuple #[z,.bool false]else z):cZ.rel C ρ α (.mlk ok kt k ag z) [c,x] v:=by
 refine⟨nx,l,Cf h hf hK hk hki hc hx,?_⟩
 rw [hx]
 cases hF:F i with
 | none=>rw [hF]at hv;exact .inl ⟨h.no hinj hF,hv⟩
 | some y =>
  rw [hF]at hv
  obtain⟨q,hq,h1,h2⟩:=h.yes hinj hF
  exact .inr ⟨q,hq,h1,by rw [h2];exact hv⟩
theorem gE{ag:Bool}{vs:List V}{y:β}{nx':Nat}{l':List Qe}(h:jf key f l F)(hf:∀ x,(f x).length=k){G:Value→Prop}(hK:kq C.P kt G)(hk:∀ e∈l,G e.key)(hki:G (key i))(hc:ae (c.den ρ α)=bV nx l)(hx:x.den ρ α=key i)(hvs:ah ρ α vs=f y)(hp:CR nx l (key i) (f y) nx' l'):cZ.rel C ρ α (.mset kt k ag) (c::x::vs) (.agg (bV nx' l').toArray):=by
 refine⟨nx,l,Cf h hf hK hk hki hc hx,?_⟩
 rw [hx,hvs]
 rcases hp with ⟨h1,rfl,rfl⟩|⟨j,q,h1,h2,rfl,rfl⟩
 ·exact .inl ⟨h1,rfl⟩
 exact .inr ⟨j,q,h1,h2,rfl⟩
end
end SX
end Go.Proofs.YtidekfgkpindbaaGreatDoor
