/-
  Texts behind the statement, part 7.
-/
import Derived.Test.YtidekfgkpindbaaGreatDoorQC6
import Derived.Test.YtidekfgkpindbaaGreatDoorQC1
import Derived.LaidMore
import Derived.Stop.Joined
import Derived.Stop.LaidErr
import Derived.Lib.LaidTab
import Derived.ChangeSlices
import Derived.MakeChecks
import Derived.DataElems
import Derived.Test.YtidekfgkpindbaaGreatDoorQC5
set_option linter.unusedSimpArgs false
set_option linter.unusedVariables false
set_option maxRecDepth 100000
set_option maxHeartbeats 4000000
namespace Go.Proofs.YtidekfgkpindbaaGreatDoor
open Go Go.RowKit SX
def ow(x:cf):Prop:=(0≤x.no∧x.no≤1048576)∧(0≤x.person∧x.person≤63)∧(0≤x.from_∧x.from_≤x.to_)∧x.to_≤73048∧(0≤x.known∧x.known≤134217727)∧(cg x.kind x.limb x.n∨(x.kind=0∧x.limb=0∧x.n=0∧x.of_≠0))
instance (x:cf):Decidable (ow x):=by unfold ow;infer_instance
theorem bN{x:cf}:ow x↔(0≤x.no∧x.no≤1048576)∧(0≤x.person∧x.person≤63)∧(0≤x.from_∧x.from_≤x.to_)∧x.to_≤73048∧(0≤x.known∧x.known≤134217727)∧(cg x.kind x.limb x.n∨(x.kind=0∧x.limb=0∧x.n=0∧x.of_≠0)):=Iff.rfl
def Ha(p:List cf)(x:cf):Prop:=x.of_=0∨((∀ y∈p,y.of_≠x.of_)∧∃ y∈p,y.no+1=x.of_∧y.person=x.person∧y.known≤x.known)
instance (p:List cf) (x:cf):Decidable (Ha p x):=by unfold Ha;infer_instance
def GP(l:List cf)(i:Nat)(z:cf):Prop:=ow z∧(∀ y∈l.take i,y.no<z.no)∧Ha (l.take i) z
def Mo(l:List cf):Prop:=∀ i z,l[i]?=some z→GP l i z
noncomputable instance (l:List cf):Decidable (Mo l):=Classical.propDecidable _
def DU(l:List cf)(i:Nat):Prop:=∀ j z,j<i→l[j]?=some z→GP l j z
noncomputable def eT(l:List cf):Int:=if 512<l.length then 2 else if Mo l then 0 else 340
theorem DW(l:List cf):DU l 0:=fun j z h=>absurd h ab
theorem DV{l:List cf}{i:Nat}{z:cf}(h:DU l i)(hz:l[i]?=some z)(ha:GP l i z):DU l (i+1):=fun j y hj hy=>by
 by_cases he:j=i
 ·subst he;rw [hz]at hy;cases hy;exact ha
 exact h j y ab hy
theorem GQ{l:List cf}{i:Nat}(h:DU l i)(hi:l.length≤i):Mo l:=fun j y hy=>h j y (Nat.lt_of_lt_of_le (List.getElem?_eq_some_iff.1 hy).1 hi) hy
theorem dW{l:List cf}{i:Nat}{z:cf}(hz:l[i]?=some z)(h:¬ GP l i z):¬ Mo l:=fun hk=>h (hk i z hz)
theorem xP{l:List cf}{i:Nat}{z:cf}(hz:l[i]?=some z){P:cf→Prop}:(∃ q∈l.take (i+1),P q)↔(∃ q∈l.take i,P q)∨P z:=by
 rw [List.take_add_one,hz]
 simp only [Option.toList_some,List.mem_append,List.mem_singleton]
 constructor
 ·rintro⟨q,h|rfl,hq⟩
  ·exact .inl ⟨q,h,hq⟩
  exact .inr hq
 rintro(⟨q,h,hq⟩|h)
 ·exact⟨q,.inl h,hq⟩
 exact⟨z,.inr rfl,h⟩
theorem tr{l:List cf}{i:Nat}{z:cf}(hz:l[i]?=some z){P:cf→Prop}:(∀ q∈l.take (i+1),P q)↔(∀ q∈l.take i,P q)∧P z:=by
 rw [List.take_add_one,hz]
 simp only [Option.toList_some,List.mem_append,List.mem_singleton]
 constructor
 ·exact fun h=>⟨fun q hq=>h q (.inl hq),h z (.inr rfl)⟩
 rintro⟨h,hz⟩ q (hq|rfl)
 ·exact h q hq
 exact hz
theorem ud{l:List cf}{i j:Nat}{z:cf}(hz:l[j]?=some z)(h:j<i):z∈l.take i:=List.mem_of_getElem? (i:=j) (by rw [List.getElem?_take,if_pos h];exact hz)
theorem oP{l:List cf}{i:Nat}{z:cf}(h:z∈l.take i):∃ j,j<i∧l[j]?=some z:=by
 obtain⟨j,hj⟩:=List.mem_iff_getElem?.1 h
 rw [List.getElem?_take]at hj
 split at hj
 ·exact⟨j,by assumption,hj⟩
 cases hj
def m8(p:Int×Int×Int):List Value:=[.int .i64 p.1,.int .i64 p.2.1,.int .i64 p.2.2]
theorem vu(a b:Int×Int×Int)(h:m8 a=m8 b):a=b:=by
 obtain⟨a1,a2,a3⟩:=a
 obtain⟨b1,b2,b3⟩:=b
 simpa [m8]using h
theorem lR{W:World}{u:Value}{ls:List cf}(h:SX.Arg.rd W ⟨u,9,lQ ls⟩):∃ A n c,u=.slice A n c∧Rd W 9 A n (lQ ls)∧n≤c∧ls.length=n:=by
 unfold SX.Arg.rd at h
 split at h
 ·rename_i A n c hu
  have hu:u=.slice A n c:=hu
  refine⟨A,n,c,hu,h.1,h.2,?_⟩
  have:=h.1.1;simp only [j5]at this;omega
 cases h
def Qb(f:FuncId)(xs:List SX.Arg)(v:Value):Prop:=f=106∧∃ k l n:Int,xs=[⟨.agg #[.int .i64 k,.int .i64 l,.int .i64 n],0,[]⟩]∧v=.bool (decide (cg k l n))
def NX:FuncId→Option SX.Sh:=fun f=>if f=106 then some .one else none
noncomputable def MR(K A:QV):SX.Cx:={ P:=Tryz.prog,R:=fun _=>Qb,shp:=NX,K:=K,A:=A,trm:=true }
theorem Ph(K A:QV):(MR K A).Ok:=by
 refine SX.Cx.b6 al ?_
 intro K f xs v W hR hrd hKf
 obtain⟨rfl,k,l,n,rfl,rfl⟩:=hR
 exact(Aa k l n W).mono fun e w' h=>ay rfl h
def x9(i:Int):Value:=.int .i64 i
theorem kN(a b:Int)(h:x9 a=x9 b):a=b:=by injection h
def Mm(_:Unit):List Value:=[.bool true]
theorem iu:kq Tryz.prog 3 (MapKept.IsKey (.int .i64)):=kq.plain aa
def ju(ls:List cf):Prop:=∀ z∈ls,-9223372036854775808≤z.of_∧z.of_≤9223372036854775807
structure CP(ls:List cf)(i:Nat)(last:Int)(lk lr:List Qe)(M:Int→Option cf)(G:Int→Option Unit):Prop where
 ok:DU ls i
 la:∀ v,last<v↔0≤v∧∀ y∈ls.take i,y.no<v
 m:jf x9 bE lk M
 mkk:∀ e∈lk,MapKept.IsKey (.int .i64) e.key
 g:jf x9 Mm lr G
 gk:∀ e∈lr,MapKept.IsKey (.int .i64) e.key
 hm:∀ q y,M q=some y↔y∈ls.take i∧y.no=q
 hg:∀ q,G q=some ()↔∃ y∈ls.take i,y.of_=q
theorem DH(ls:List cf):CP ls 0 (-1) [] [] (fun _=>none) (fun _=>none):=⟨DW ls,fun v=>aw,jf.zero,(fun e he=>nomatch he),jf.zero,(fun e he=>nomatch he),fun q y=>ai,fun q=>ai⟩
theorem lP{ls:List cf}{i:Nat}{last:Int}{lk lr lk2 lr2:List Qe}{M:Int→Option cf}{G:Int→Option Unit}{z:cf}{nk nr nk2 nr2:Nat}(h:CP ls i last lk lr M G)(hz:ls[i]?=some z)(hp:CR nk lk (x9 z.no) (bE z) nk2 lk2)(hp2:CR nr lr (x9 z.of_) (Mm ()) nr2 lr2)(hM:jf x9 bE lk2 (zl M z.no (some z)))(hG:jf x9 Mm lr2 (zl G z.of_ (some ())))(ha:GP ls i z):CP ls (i+1) z.no lk2 lr2 (zl M z.no (some z)) (zl G z.of_ (some ())):=by
 have h0:=(bN.1 ha.1).1
 refine⟨DV h.ok hz ha,fun v=>?_,hM,hp.keys h.mkk rfl,hG,hp2.keys h.gk rfl,fun q y=>?_,fun q=>?_⟩
 ·rw [tr hz]
  exact⟨fun h=>⟨ab,fun y hy=>by have:=ha.2.1 y hy;omega,h⟩,fun h=>h.2.2⟩
 ·have key:=xP hz (P:=fun x=>x=y∧x.no=q)
  have e1:(y∈ls.take (i+1)∧y.no=q)↔∃ x∈ls.take (i+1),x=y∧x.no=q:=⟨fun h=>⟨y,h.1,rfl,h.2⟩,fun⟨x,hx,e,e2⟩=>by subst e;exact⟨hx,e2⟩⟩
  have e2:(∃ x∈ls.take i,x=y∧x.no=q)↔(y∈ls.take i∧y.no=q):=⟨fun⟨x,hx,e,e2⟩=>by subst e;exact⟨hx,e2⟩,fun h=>⟨y,h.1,rfl,h.2⟩⟩
  rw [e1,key,e2]
  by_cases hq:q=z.no
  ·subst hq
   rw [l8]
   constructor
   ·intro h;exact .inr ⟨Option.some.inj h,rfl⟩
   rintro(⟨hy,hyq⟩|⟨hy,-⟩)
   ·exact absurd (ha.2.1 y hy) ab
   rw [hy]
  rw [gz _ _ hq,h.hm]
  exact⟨.inl,fun h=>h.elim id fun h=>absurd h.2.symm hq⟩
 rw [xP hz]
 by_cases hq:q=z.of_
 ·subst hq
  rw [l8]
  exact⟨fun _=>.inr rfl,fun _=>rfl⟩
 rw [gz _ _ hq,h.hg]
 exact⟨.inl,fun h=>h.elim id fun h=>absurd h.symm hq⟩
theorem CH{ls:List cf}{i:Nat}(h:DU ls i){y y':cf}(hy:y∈ls.take i)(hy':y'∈ls.take i)(he:y.no=y'.no):y=y':=by
 obtain⟨j,hj,hy⟩:=oP hy
 obtain⟨k,hk,hy'⟩:=oP hy'
 rcases Nat.lt_trichotomy j k with hjk|hjk|hjk
 ·have:=(h k y' hk hy').2.1 y (ud hy hjk);omega
 ·subst hjk;rw [hy]at hy';exact Option.some.inj hy'
 ·have:=(h j y hj hy).2.1 y' (ud hy' hjk);omega
theorem lB{a b:Int}(h1 : -9223372036854775808≤a)(h2:a≤9223372036854775807)(h3:0≤b)(h4:b≤1048576):b=IntKind.i64.wrap (a-1)↔b+1=a:=by
 by_cases h:a = -9223372036854775808
 ·subst h
  have:IntKind.i64.wrap (-9223372036854775808-1)=9223372036854775807:=aj
  rw [this];omega
 rw [wrap_i64 ab ab];omega
def IM:cf:=⟨0,0,0,0,0,0,0,0,0⟩
theorem Au{ls:List cf}{i:Nat}{last:Int}{lk lr:List Qe}{M:Int→Option cf}{G:Int→Option Unit}(h:CP ls i last lk lr M G)(q:Int):∃ (y:cf)(b:Bool),((M q=some y∧b=true)∨(M q=none∧y=IM∧b=false))∧(b=true→y∈ls.take i∧y.no=q)∧(b=false→∀ y'∈ls.take i,y'.no≠q):=by
 cases hg:M q with
 | none=>exact⟨IM,false,.inr ⟨rfl,rfl,rfl⟩,nofun,fun _ y' hy' he=>by have:=(h.hm q y').2 ⟨hy',he⟩;rw [hg]at this;cases this⟩
 | some y=>exact⟨y,true,.inl ⟨rfl,rfl⟩,fun _=>(h.hm q y).1 hg,nofun⟩
theorem DN{ls:List cf}{i:Nat}{last:Int}{lk lr:List Qe}{M:Int→Option cf}{G:Int→Option Unit}(h:CP ls i last lk lr M G)(q:Int):∃ b:Bool,((G q=some ()∧b=true)∨(G q=none∧b=false))∧(b=true↔∃ y∈ls.take i,y.of_=q):=by
 cases hg:G q with
 | none=>exact⟨false,.inr ⟨rfl,rfl⟩,nofun,fun h'=>by have:=(h.hg q).2 h';rw [hg]at this;cases this⟩
 | some y=>exact⟨true,.inl ⟨rfl,rfl⟩,fun _=>(h.hg q).1 hg,fun _=>rfl⟩
def pB:SX.Tree :=
(.df (.len false) [(.q 0)] .one
(.df (.bin .gtr 3) [(.q 1),(.i 512)] .one
(.br 2 []
(.ret (.i 2) [] [])
(.df (.len false) [(.q 0)] .one
(.loop [(.i 0),(.i (-1)),(.a [(.i 0)]),(.a [(.i 0)])] [.one,.one,.any,.any]
(.df (.bin .lss 3) [(.q 4),(.q 3)] .one
(.br 8 []
(.df .bnd [(.q 0),(.q 4)] .one
(.df (.elems 9 0 9) [(.q 0),(.q 4)] (.ag 9)
(.df (.bin .sub 3) [(.x 10 [2]),(.i 1)] .one
(.df (.mlk true 3 9 true (.agg #[(.int .i64 0),(.int .i64 0),(.int .i64 0),(.int .i64 0),(.int .i64 0),(.int .i64 0),(.int .i64 0),(.int .i64 0),(.int .i64 0)])) [(.cat [(.q 6)]),(.q 11)] (.tp [(.ag 9),.one])
(.df (.bin .leq 3) [(.x 10 [0]),(.q 5)] .one
(.br 13 []
(.ret (.i 340) [] [])
(.df (.bin .gtr 3) [(.x 10 [0]),(.i 1048576)] .one
(.br 14 []
(.ret (.i 340) [] [])
(.df (.bin .leq 3) [(.i 0),(.x 10 [1])] .one
(.br 15 []
(.df (.bin .leq 3) [(.x 10 [1]),(.i 63)] .one
(.df .not [(.q 16)] .one
(.br 17 []
(.ret (.i 340) [] [])
(.df (.bin .lss 3) [(.x 10 [3]),(.i 0)] .one
(.br 18 []
(.ret (.i 340) [] [])
(.df (.bin .gtr 3) [(.x 10 [3]),(.x 10 [4])] .one
(.br 19 []
(.ret (.i 340) [] [])
(.df (.bin .gtr 3) [(.x 10 [4]),(.i 73048)] .one
(.br 20 []
(.ret (.i 340) [] [])
(.df (.bin .leq 3) [(.i 0),(.x 10 [5])] .one
(.br 21 []
(.df (.bin .leq 3) [(.x 10 [5]),(.i 134217727)] .one
(.df .not [(.q 22)] .one
(.br 23 []
(.ret (.i 340) [] [])
(.df (.call 106 [.no]) [(.a [(.x 10 [6]),(.x 10 [7]),(.x 10 [8])])] .one
(.df .not [(.q 24)] .one
(.br 25 []
(.df (.eqr true 3 [(.i .i64),(.i .i64),(.i .i64)]) (QJ 10 6 3++[(.i 0),(.i 0),(.i 0)]) .one
(.br 26 []
(.ret (.i 340) [] [])
(.df (.bin .eql 3) [(.x 10 [2]),(.i 0)] .one
(.br 27 []
(.ret (.i 340) [] [])
(.df (.bin .neq 3) [(.x 10 [2]),(.i 0)] .one
(.br 28 []
(.df .not [(.x 12 [1])] .one
(.br 29 []
(.ret (.i 340) [] [])
(.df (.mlk false 3 1 false (.bool false)) [(.cat [(.q 7)]),(.x 10 [2])] .one
(.br 30 []
(.ret (.i 340) [] [])
(.df (.bin .neq 3) [(.x 12 [0,1]),(.x 10 [1])] .one
(.br 31 []
(.ret (.i 340) [] [])
(.df (.bin .gtr 3) [(.x 12 [0,5]),(.x 10 [5])] .one
(.br 32 []
(.ret (.i 340) [] [])
(.df (.mset 3 9 true) [(.cat [(.q 6)]),(.x 10 [0]),(.x 10 [0]),(.x 10 [1]),(.x 10 [2]),(.x 10 [3]),(.x 10 [4]),(.x 10 [5]),(.x 10 [6]),(.x 10 [7]),(.x 10 [8])] .any
(.df (.mset 3 1 false) [(.cat [(.q 7)]),(.x 10 [2]),(.k (.bool true))] .any
(.df (.bin .add 3) [(.q 4),(.i 1)] .one
(.again 0 [(.q 35),(.x 10 [0]),(.q 33),(.q 34)]))))))))))))
(.df (.mset 3 9 true) [(.cat [(.q 6)]),(.x 10 [0]),(.x 10 [0]),(.x 10 [1]),(.x 10 [2]),(.x 10 [3]),(.x 10 [4]),(.x 10 [5]),(.x 10 [6]),(.x 10 [7]),(.x 10 [8])] .any
(.df (.mset 3 1 false) [(.cat [(.q 7)]),(.x 10 [2]),(.k (.bool true))] .any
(.df (.bin .add 3) [(.q 4),(.i 1)] .one
(.again 0 [(.q 31),(.x 10 [0]),(.q 29),(.q 30)]))))))))))
(.df (.bin .neq 3) [(.x 10 [2]),(.i 0)] .one
(.br 26 []
(.df .not [(.x 12 [1])] .one
(.br 27 []
(.ret (.i 340) [] [])
(.df (.mlk false 3 1 false (.bool false)) [(.cat [(.q 7)]),(.x 10 [2])] .one
(.br 28 []
(.ret (.i 340) [] [])
(.df (.bin .neq 3) [(.x 12 [0,1]),(.x 10 [1])] .one
(.br 29 []
(.ret (.i 340) [] [])
(.df (.bin .gtr 3) [(.x 12 [0,5]),(.x 10 [5])] .one
(.br 30 []
(.ret (.i 340) [] [])
(.df (.mset 3 9 true) [(.cat [(.q 6)]),(.x 10 [0]),(.x 10 [0]),(.x 10 [1]),(.x 10 [2]),(.x 10 [3]),(.x 10 [4]),(.x 10 [5]),(.x 10 [6]),(.x 10 [7]),(.x 10 [8])] .any
(.df (.mset 3 1 false) [(.cat [(.q 7)]),(.x 10 [2]),(.k (.bool true))] .any
(.df (.bin .add 3) [(.q 4),(.i 1)] .one
(.again 0 [(.q 33),(.x 10 [0]),(.q 31),(.q 32)]))))))))))))
(.df (.mset 3 9 true) [(.cat [(.q 6)]),(.x 10 [0]),(.x 10 [0]),(.x 10 [1]),(.x 10 [2]),(.x 10 [3]),(.x 10 [4]),(.x 10 [5]),(.x 10 [6]),(.x 10 [7]),(.x 10 [8])] .any
(.df (.mset 3 1 false) [(.cat [(.q 7)]),(.x 10 [2]),(.k (.bool true))] .any
(.df (.bin .add 3) [(.q 4),(.i 1)] .one
(.again 0 [(.q 29),(.x 10 [0]),(.q 27),(.q 28)]))))))))))))
(.ret (.i 340) [] []))))))))))))
(.ret (.i 340) [] [])))))))))))
(.ret (.i 0) [] []))))))))
def xp:List SX.V:=[.x 0 []]
theorem Bg(K A:QV):QU (MR K A) ⟨fun f=>true,[⟨74,7,[(.s 19,.one),(.c 3 0,.one),(.c 0 0,.any),(.c 1 0,.any)]⟩],0,100⟩ 74 Tryz.f74 xp [.one]=pB:=aa
theorem Ap(ls:List cf)(A:Option Addr)(n c:Nat)(w:World)(hr:Rd w 9 A n (lQ ls))(hn:n≤9223372036854775807)(hc:n≤c)(hfit:ju ls):RT 74 #[.slice A n c] w (.int .i64 (eT ls)):=by
 refine QG (Bg (fun s sz cells=>s=.slice A n c∧sz=9∧cells=lQ ls) QW) [.slice A n c] (Ph _ _) Tryz.func74 ?_ ?_
 ·rintro W hW s sz cells ⟨rfl,rfl,rfl⟩;exact⟨hr.aJ hW,hc⟩
 have hA:=SX.rd_some hr
 have hln:ls.length=n:=by have:=hr.1;rw [j5]at this;omega
 unfold pB
 refine QB (.int .i64 (((n:Nat):Int))) ?_
 refine QB (.bool (decide (((n:Nat):Int)>512))) ?_
 refine QD (decide (((n:Nat):Int)>512)) (fun h2=>?_) (fun h2=>?_)
 ·try simp only [cb]at h2
  exact QE (.int .i64 2) (by rw [eT,if_pos ab])
 try simp only [cb]at h2
 refine QB (.int .i64 (((n:Nat):Int))) ?_
 refine ck (fun xs=>∃ (i:Nat) (last:Int) (nk:Nat) (lk:List Qe) (nr:Nat) (lr:List Qe) (M:Int→Option cf) (G:Int→Option Unit),xs=[.int .i64 (i:Int),.int .i64 last,.agg (bV nk lk).toArray,.agg (bV nr lr).toArray]∧i≤n∧CP ls i last lk lr M G) (fun xs=>match xs with|(.int _ i)::_=>n-i.toNat|_=>0) (fun α=>⟨0,-1,0,[],0,[],_,_,aa,ab,DH ls⟩) ?_
 rintro xs-⟨i,last,nk,lk,nr,lr,M,G,rfl,hin,hI⟩
 refine QB (.bool (decide (((i:Nat):Int)<((n:Nat):Int)))) ?_
 refine QD (decide (((i:Nat):Int)<((n:Nat):Int))) (fun h8=>?_) (fun h8=>?_)
 ·try simp only [cb]at h8
  obtain⟨z,hz⟩:∃ z,ls[i]?=some z:=⟨_,List.getElem?_eq_getElem ab⟩
  refine QM A n c i hA ab ?_
  refine QN (f:=bE) (l:=ls) (.agg (bE z).toArray) A n c i z hA ab ⟨rfl,rfl,rfl⟩ hz ?_
  obtain⟨y,fd,hlook,hf1,hf2⟩:=Au hI (IntKind.i64.wrap (z.of_-1))
  obtain⟨rp,hlr,hrep⟩:=DN hI z.of_
  obtain⟨nk2,lk2,hpk,hM2⟩:=hI.m.put kN nk z.no z
  obtain⟨nr2,lr2,hpr,hG2⟩:=hI.g.put kN nr z.of_ ()
  have hzf:=hfit z (List.mem_of_getElem? hz)
  have hno:∀ y'∈ls.take i,0≤y'.no∧y'.no≤1048576:=fun y' hy'=>by obtain⟨j,hj,hy'⟩:=oP hy';exact(bN.1 (hI.1 j y' hj hy').1).1
  refine QB (.int .i64 (IntKind.i64.wrap (z.of_-1))) ?_
  refine QC (.tuple #[.agg #[.int .i64 y.no,.int .i64 y.person,.int .i64 y.of_,.int .i64 y.from_,.int .i64 y.to_,.int .i64 y.known,.int .i64 y.kind,.int .i64 y.limb,.int .i64 y.n],.bool fd]) (fun α=>vR (nx:=nk) (i:=IntKind.i64.wrap (z.of_-1)) hI.m kN al iu hI.mkk rfl (bz aa) aa (by rcases hlook with ⟨e1,e2⟩|⟨e1,e2,e3⟩<;>subst_vars<;>rw [e1]<;>rfl)) ?_
  refine QB (.bool (decide (z.no≤last))) ?_
  refine QD (decide (z.no≤last)) (fun h13=>?_) (fun h13=>?_)
  ·try simp only [cb]at h13
   exact QE (.int .i64 340) (by rw [eT,if_neg ab,if_neg (dW hz fun hk=>by
    have ⟨hk1,hk2,hk3,hk4,hk5,hk6⟩:=bN.1 hk.1;have q:=(hI.la z.no).2 ⟨ab,hk.2.1⟩;omega)])
  try simp only [cb]at h13
  refine QB (.bool (decide (z.no>1048576))) ?_
  refine QD (decide (z.no>1048576)) (fun h14=>?_) (fun h14=>?_)
  ·try simp only [cb]at h14
   exact QE (.int .i64 340) (by rw [eT,if_neg ab,if_neg (dW hz fun hk=>by
    have ⟨hk1,hk2,hk3,hk4,hk5,hk6⟩:=bN.1 hk.1;omega)])
  try simp only [cb]at h14
  refine QB (.bool (decide (0≤z.person))) ?_
  refine QD (decide (0≤z.person)) (fun h15=>?_) (fun h15=>?_)
  ·try simp only [cb]at h15
   refine QB (.bool (decide (z.person≤63))) ?_
   refine QB (.bool (!(decide (z.person≤63)))) ?_
   refine QD (!(decide (z.person≤63))) (fun h17=>?_) (fun h17=>?_)
   ·try simp only [cb]at h17
    exact QE (.int .i64 340) (by rw [eT,if_neg ab,if_neg (dW hz fun hk=>by
     have ⟨hk1,hk2,hk3,hk4,hk5,hk6⟩:=bN.1 hk.1;have q:=h17;(try simp at q);omega)])
   try simp only [cb]at h17
   refine QB (.bool (decide (z.from_<0))) ?_
   refine QD (decide (z.from_<0)) (fun h18=>?_) (fun h18=>?_)
   ·try simp only [cb]at h18
    exact QE (.int .i64 340) (by rw [eT,if_neg ab,if_neg (dW hz fun hk=>by
     have ⟨hk1,hk2,hk3,hk4,hk5,hk6⟩:=bN.1 hk.1;omega)])
   try simp only [cb]at h18
   refine QB (.bool (decide (z.from_>z.to_))) ?_
   refine QD (decide (z.from_>z.to_)) (fun h19=>?_) (fun h19=>?_)
   ·try simp only [cb]at h19
    exact QE (.int .i64 340) (by rw [eT,if_neg ab,if_neg (dW hz fun hk=>by
     have ⟨hk1,hk2,hk3,hk4,hk5,hk6⟩:=bN.1 hk.1;omega)])
   try simp only [cb]at h19
   refine QB (.bool (decide (z.to_>73048))) ?_
   refine QD (decide (z.to_>73048)) (fun h20=>?_) (fun h20=>?_)
   ·try simp only [cb]at h20
    exact QE (.int .i64 340) (by rw [eT,if_neg ab,if_neg (dW hz fun hk=>by
     have ⟨hk1,hk2,hk3,hk4,hk5,hk6⟩:=bN.1 hk.1;omega)])
   try simp only [cb]at h20
   refine QB (.bool (decide (0≤z.known))) ?_
   refine QD (decide (0≤z.known)) (fun h21=>?_) (fun h21=>?_)
   ·try simp only [cb]at h21
    refine QB (.bool (decide (z.known≤134217727))) ?_
    refine QB (.bool (!(decide (z.known≤134217727)))) ?_
    refine QD (!(decide (z.known≤134217727))) (fun h23=>?_) (fun h23=>?_)
    ·try simp only [cb]at h23
     exact QE (.int .i64 340) (by rw [eT,if_neg ab,if_neg (dW hz fun hk=>by
      have ⟨hk1,hk2,hk3,hk4,hk5,hk6⟩:=bN.1 hk.1;have q:=h23;(try simp at q);omega)])
    try simp only [cb]at h23
    refine QC (.bool (decide (cg z.kind z.limb z.n))) (fun α=>⟨[⟨.agg #[.int .i64 z.kind,.int .i64 z.limb,.int .i64 z.n],0,[]⟩],QP,⟨rfl,_,_,_,rfl,rfl⟩,ap rfl⟩) ?_
    refine QB (.bool (!(decide (cg z.kind z.limb z.n)))) ?_
    refine QD (!(decide (cg z.kind z.limb z.n))) (fun h25=>?_) (fun h25=>?_)
    ·try simp only [cb]at h25
     refine QC (.bool (true ^^ decide ((z.kind,z.limb,z.n)=((0:Int),(0:Int),(0:Int))))) (fun α=>fH (f:=m8) vu (y:=(z.kind,z.limb,z.n)) (z:=((0:Int),(0:Int),(0:Int))) aa aa aa) ?_
     refine QD (true ^^ decide ((z.kind,z.limb,z.n)=((0:Int),(0:Int),(0:Int)))) (fun h26=>?_) (fun h26=>?_)
     ·try simp only [cb]at h26
      exact QE (.int .i64 340) (by rw [eT,if_neg ab,if_neg (dW hz fun hk=>by
       have ⟨hk1,hk2,hk3,hk4,hk5,hk6⟩:=bN.1 hk.1;exact hk6.elim (fun h=>by have q:=h25;simp [h]at q) (fun h=>by have q:=h26;simp [h.1,h.2.1,h.2.2.1]at q))])
     try simp only [cb]at h26
     refine QB (.bool ((z.of_:Int) == 0)) ?_
     refine QD ((z.of_:Int) == 0) (fun h27=>?_) (fun h27=>?_)
     ·try simp only [cb]at h27
      exact QE (.int .i64 340) (by rw [eT,if_neg ab,if_neg (dW hz fun hk=>by
       have ⟨hk1,hk2,hk3,hk4,hk5,hk6⟩:=bN.1 hk.1;exact hk6.elim (fun h=>by have q:=h25;simp [h]at q) (fun h=>h.2.2.2 (af h27)))])
     try simp only [cb]at h27
     refine QB (.bool ((z.of_:Int) != 0)) ?_
     refine QD ((z.of_:Int) != 0) (fun h28=>?_) (fun h28=>?_)
     ·try simp only [cb]at h28
      refine QB (.bool (!(fd))) ?_
      refine QD (!(fd)) (fun h29=>?_) (fun h29=>?_)
      ·try simp only [cb]at h29
       exact QE (.int .i64 340) (by rw [eT,if_neg ab,if_neg (dW hz fun hk=>by
        have hz0:z.of_≠0:=af h28
        obtain⟨hr1,y1,hy1,hy2,hy3,hy4⟩:=hk.2.2.resolve_left hz0
        exact hf2 (af h29) y1 hy1 ((lB hzf.1 hzf.2 (hno y1 hy1).1 (hno y1 hy1).2).2 hy2))])
      try simp only [cb]at h29
      refine QC (.bool rp) (fun α=>vR (nx:=nr) (i:=z.of_) hI.g kN al iu hI.gk rfl (bz aa) aa (by rcases hlr with ⟨e1,e2⟩|⟨e1,e2⟩<;>subst_vars<;>rw [e1]<;>rfl)) ?_
      refine QD rp (fun h30=>?_) (fun h30=>?_)
      ·try simp only [cb]at h30
       exact QE (.int .i64 340) (by rw [eT,if_neg ab,if_neg (dW hz fun hk=>by
        have hz0:z.of_≠0:=af h28
        obtain⟨hr1,y1,hy1,hy2,hy3,hy4⟩:=hk.2.2.resolve_left hz0
        obtain⟨y2,hy5,hy6⟩:=hrep.1 h30;exact hr1 y2 hy5 hy6)])
      try simp only [cb]at h30
      refine QB (.bool ((y.person:Int) != z.person)) ?_
      refine QD ((y.person:Int) != z.person) (fun h31=>?_) (fun h31=>?_)
      ·try simp only [cb]at h31
       exact QE (.int .i64 340) (by rw [eT,if_neg ab,if_neg (dW hz fun hk=>by
        have hz0:z.of_≠0:=af h28
        obtain⟨hr1,y1,hy1,hy2,hy3,hy4⟩:=hk.2.2.resolve_left hz0
        have hyy:=CH hI.1 (hf1 (af h29)).1 hy1 (by rw [(hf1 (af h29)).2,(lB hzf.1 hzf.2 (hno y1 hy1).1 (hno y1 hy1).2).2 hy2]);subst hyy;have q:=h31;simp [hy3]at q)])
      try simp only [cb]at h31
      refine QB (.bool (decide (y.known>z.known))) ?_
      refine QD (decide (y.known>z.known)) (fun h32=>?_) (fun h32=>?_)
      ·try simp only [cb]at h32
       exact QE (.int .i64 340) (by rw [eT,if_neg ab,if_neg (dW hz fun hk=>by
        have hz0:z.of_≠0:=af h28
        obtain⟨hr1,y1,hy1,hy2,hy3,hy4⟩:=hk.2.2.resolve_left hz0
        have hyy:=CH hI.1 (hf1 (af h29)).1 hy1 (by rw [(hf1 (af h29)).2,(lB hzf.1 hzf.2 (hno y1 hy1).1 (hno y1 hy1).2).2 hy2]);subst hyy;omega)])
      try simp only [cb]at h32
      refine QC (.agg (bV nk2 lk2).toArray) (fun α=>gE hI.m al iu hI.mkk rfl (bz aa) aa aa hpk) ?_
      refine QC (.agg (bV nr2 lr2).toArray) (fun α=>gE hI.g al iu hI.gk rfl (bz aa) aa aa hpr) ?_
      refine QC (.int .i64 (((i+1:Nat):Int))) (fun α=>QI i) ?_
      exact bO fun α=>⟨⟨i+1,z.no,nk2,lk2,nr2,lr2,_,_,aa,ab,lP hI hz hpk hpr hM2 hG2 ⟨bN.2 ⟨(by have q1:=(hI.la z.no).1 ab;omega),(by have q:=h17;(try simp at q);omega),(by  omega),(by  omega),(by have q:=h23;(try simp at q);omega),.inr (by have q1:=h26;have q2:=h27;simp at q1 q2;exact⟨q1.1,q1.2.1,q1.2.2,q2⟩)⟩,((hI.la z.no).1 ab).2,.inr ⟨fun y' hy' he=>by have q:=h30;rw [Bool.eq_false_iff]at q;exact q (hrep.2 ⟨y',hy',he⟩),y,(hf1 (af h29)).1,(lB hzf.1 hzf.2 (hno y (hf1 (af h29)).1).1 (hno y (hf1 (af h29)).1).2).1 (hf1 (af h29)).2,af h31,ab⟩⟩⟩,cast aa (show n-((i+1:Nat):Int).toNat<n-(i:Int).toNat by omega)⟩
     try simp only [cb]at h28
     refine QC (.agg (bV nk2 lk2).toArray) (fun α=>gE hI.m al iu hI.mkk rfl (bz aa) aa aa hpk) ?_
     refine QC (.agg (bV nr2 lr2).toArray) (fun α=>gE hI.g al iu hI.gk rfl (bz aa) aa aa hpr) ?_
     refine QC (.int .i64 (((i+1:Nat):Int))) (fun α=>QI i) ?_
     exact bO fun α=>⟨⟨i+1,z.no,nk2,lk2,nr2,lr2,_,_,aa,ab,lP hI hz hpk hpr hM2 hG2 ⟨bN.2 ⟨(by have q1:=(hI.la z.no).1 ab;omega),(by have q:=h17;(try simp at q);omega),(by  omega),(by  omega),(by have q:=h23;(try simp at q);omega),.inr (by have q1:=h26;have q2:=h27;simp at q1 q2;exact⟨q1.1,q1.2.1,q1.2.2,q2⟩)⟩,((hI.la z.no).1 ab).2,.inl (af h28)⟩⟩,cast aa (show n-((i+1:Nat):Int).toNat<n-(i:Int).toNat by omega)⟩
    try simp only [cb]at h25
    refine QB (.bool ((z.of_:Int) != 0)) ?_
    refine QD ((z.of_:Int) != 0) (fun h26=>?_) (fun h26=>?_)
    ·try simp only [cb]at h26
     refine QB (.bool (!(fd))) ?_
     refine QD (!(fd)) (fun h27=>?_) (fun h27=>?_)
     ·try simp only [cb]at h27
      exact QE (.int .i64 340) (by rw [eT,if_neg ab,if_neg (dW hz fun hk=>by
       have hz0:z.of_≠0:=af h26
       obtain⟨hr1,y1,hy1,hy2,hy3,hy4⟩:=hk.2.2.resolve_left hz0
       exact hf2 (af h27) y1 hy1 ((lB hzf.1 hzf.2 (hno y1 hy1).1 (hno y1 hy1).2).2 hy2))])
     try simp only [cb]at h27
     refine QC (.bool rp) (fun α=>vR (nx:=nr) (i:=z.of_) hI.g kN al iu hI.gk rfl (bz aa) aa (by rcases hlr with ⟨e1,e2⟩|⟨e1,e2⟩<;>subst_vars<;>rw [e1]<;>rfl)) ?_
     refine QD rp (fun h28=>?_) (fun h28=>?_)
     ·try simp only [cb]at h28
      exact QE (.int .i64 340) (by rw [eT,if_neg ab,if_neg (dW hz fun hk=>by
       have hz0:z.of_≠0:=af h26
       obtain⟨hr1,y1,hy1,hy2,hy3,hy4⟩:=hk.2.2.resolve_left hz0
       obtain⟨y2,hy5,hy6⟩:=hrep.1 h28;exact hr1 y2 hy5 hy6)])
     try simp only [cb]at h28
     refine QB (.bool ((y.person:Int) != z.person)) ?_
     refine QD ((y.person:Int) != z.person) (fun h29=>?_) (fun h29=>?_)
     ·try simp only [cb]at h29
      exact QE (.int .i64 340) (by rw [eT,if_neg ab,if_neg (dW hz fun hk=>by
       have hz0:z.of_≠0:=af h26
       obtain⟨hr1,y1,hy1,hy2,hy3,hy4⟩:=hk.2.2.resolve_left hz0
       have hyy:=CH hI.1 (hf1 (af h27)).1 hy1 (by rw [(hf1 (af h27)).2,(lB hzf.1 hzf.2 (hno y1 hy1).1 (hno y1 hy1).2).2 hy2]);subst hyy;have q:=h29;simp [hy3]at q)])
     try simp only [cb]at h29
     refine QB (.bool (decide (y.known>z.known))) ?_
     refine QD (decide (y.known>z.known)) (fun h30=>?_) (fun h30=>?_)
     ·try simp only [cb]at h30
      exact QE (.int .i64 340) (by rw [eT,if_neg ab,if_neg (dW hz fun hk=>by
       have hz0:z.of_≠0:=af h26
       obtain⟨hr1,y1,hy1,hy2,hy3,hy4⟩:=hk.2.2.resolve_left hz0
       have hyy:=CH hI.1 (hf1 (af h27)).1 hy1 (by rw [(hf1 (af h27)).2,(lB hzf.1 hzf.2 (hno y1 hy1).1 (hno y1 hy1).2).2 hy2]);subst hyy;omega)])
     try simp only [cb]at h30
     refine QC (.agg (bV nk2 lk2).toArray) (fun α=>gE hI.m al iu hI.mkk rfl (bz aa) aa aa hpk) ?_
     refine QC (.agg (bV nr2 lr2).toArray) (fun α=>gE hI.g al iu hI.gk rfl (bz aa) aa aa hpr) ?_
     refine QC (.int .i64 (((i+1:Nat):Int))) (fun α=>QI i) ?_
     exact bO fun α=>⟨⟨i+1,z.no,nk2,lk2,nr2,lr2,_,_,aa,ab,lP hI hz hpk hpr hM2 hG2 ⟨bN.2 ⟨(by have q1:=(hI.la z.no).1 ab;omega),(by have q:=h17;(try simp at q);omega),(by  omega),(by  omega),(by have q:=h23;(try simp at q);omega),.inl (af h25)⟩,((hI.la z.no).1 ab).2,.inr ⟨fun y' hy' he=>by have q:=h28;rw [Bool.eq_false_iff]at q;exact q (hrep.2 ⟨y',hy',he⟩),y,(hf1 (af h27)).1,(lB hzf.1 hzf.2 (hno y (hf1 (af h27)).1).1 (hno y (hf1 (af h27)).1).2).1 (hf1 (af h27)).2,af h29,ab⟩⟩⟩,cast aa (show n-((i+1:Nat):Int).toNat<n-(i:Int).toNat by omega)⟩
    try simp only [cb]at h26
    refine QC (.agg (bV nk2 lk2).toArray) (fun α=>gE hI.m al iu hI.mkk rfl (bz aa) aa aa hpk) ?_
    refine QC (.agg (bV nr2 lr2).toArray) (fun α=>gE hI.g al iu hI.gk rfl (bz aa) aa aa hpr) ?_
    refine QC (.int .i64 (((i+1:Nat):Int))) (fun α=>QI i) ?_
    exact bO fun α=>⟨⟨i+1,z.no,nk2,lk2,nr2,lr2,_,_,aa,ab,lP hI hz hpk hpr hM2 hG2 ⟨bN.2 ⟨(by have q1:=(hI.la z.no).1 ab;omega),(by have q:=h17;(try simp at q);omega),(by  omega),(by  omega),(by have q:=h23;(try simp at q);omega),.inl (af h25)⟩,((hI.la z.no).1 ab).2,.inl (af h26)⟩⟩,cast aa (show n-((i+1:Nat):Int).toNat<n-(i:Int).toNat by omega)⟩
   try simp only [cb]at h21
   exact QE (.int .i64 340) (by rw [eT,if_neg ab,if_neg (dW hz fun hk=>by
    have ⟨hk1,hk2,hk3,hk4,hk5,hk6⟩:=bN.1 hk.1;omega)])
  try simp only [cb]at h15
  exact QE (.int .i64 340) (by rw [eT,if_neg ab,if_neg (dW hz fun hk=>by
   have ⟨hk1,hk2,hk3,hk4,hk5,hk6⟩:=bN.1 hk.1;omega)])
 try simp only [cb]at h8
 exact QE (.int .i64 0) (by rw [eT,if_neg ab,if_pos (GQ hI.1 ab)])
def IR(ls:List cf)(person:Int):Prop:=eT ls=0∧∀ y∈ls,y.person=person
noncomputable instance (ls:List cf) (person:Int):Decidable (IR ls person):=Classical.propDecidable _
def Qd(f:FuncId)(xs:List SX.Arg)(v:Value):Prop:=f=74∧∃ (u:Value) (ls:List cf),xs=[⟨u,9,lQ ls⟩]∧ls.length≤9223372036854775807∧ju ls∧v=.int .i64 (eT ls)
noncomputable def MU(K A:QV):SX.Cx:={ P:=Tryz.prog,R:=fun _=>Qd,shp:=fun f=>if f=74 then some .one else none,K:=K,A:=A,trm:=true }
theorem Pn(K A:QV):(MU K A).Ok:=by
 refine SX.Cx.b6 al ?_
 intro K f xs v W hR hrd hKf
 obtain⟨rfl,u,ls,rfl,hl,hf,rfl⟩:=hR
 obtain⟨A,n,c,rfl,h2,h3,h4⟩:=lR (hrd ⟨u,9,lQ ls⟩ ai)
 exact(Ap ls A n c W h2 ab h3 hf).mono fun e w' h=>ay rfl h
def si:SX.Tree :=
(.df (.call 74 [(.ext 9)]) [(.q 0)] .one
(.df (.bin .eql 32) [(.q 2),(.i 0)] .one
(.br 3 []
(.df (.len false) [(.q 0)] .one
(.loop [(.i 0)] [.one]
(.df (.bin .lss 3) [(.q 5),(.q 4)] .one
(.br 6 []
(.df .bnd [(.q 0),(.q 5)] .one
(.df (.elems 9 0 9) [(.q 0),(.q 5)] (.ag 9)
(.df (.bin .neq 3) [(.x 8 [1]),(.q 1)] .one
(.br 9 []
(.df (.bin .geq 3) [(.q 5),(.i 0)] .one
(.df .not [(.q 10)] .one
(.ret (.q 11) [] [])))
(.df (.bin .add 3) [(.q 5),(.i 1)] .one
(.again 0 [(.q 10)]))))))
(.ret (.k (.bool true)) [] [])))))
(.ret (.k (.bool false)) [] []))))
def zB:List SX.V:=[.x 0 [],.x 1 []]
def I3:kp:=⟨fun f=>true,[⟨108,2,[(.s 8,.one)]⟩],0,100⟩
theorem Ey(K A:QV):QU (MU K A) I3 39 Tryz.f39 zB [.one,.one]=si:=aa
theorem qT(ls:List cf)(person:Int)(A:Option Addr)(n c:Nat)(w:World)(hr:Rd w 9 A n (lQ ls))(hc:n≤c)(hl:n≤1000000000)(hf:ju ls):RT 39 #[.slice A n c,.int .i64 person] w (.bool (decide (IR ls person))):=by
 refine QG (Ey (KW w) QW) [.slice A n c,.int .i64 person] (Pn _ _) Tryz.func39 ?_ ?_
 ·exact fun W hW v z xs h=>h W hW
 have hA:=SX.rd_some hr
 have hln:ls.length=n:=by have:=hr.1;rw [j5]at this;omega
 have hK1:KW w (.slice A n c) 9 (lQ ls):=fun W hW=>⟨hr.aJ hW,hc⟩
 unfold si
 refine QC (.int .i64 (eT ls)) (fun α=>⟨[⟨.slice A n c,9,lQ ls⟩],⟨aa,rfl,cast aa hK1,trivial⟩,⟨rfl,_,ls,rfl,ab,hf,rfl⟩,ap rfl⟩) ?_
 refine QB (.bool (decide (eT ls=0))) ?_
 refine QD (decide (eT ls=0)) (fun h3=>?_) (fun h3=>?_)
 ·have h3:eT ls=0:=af h3
  refine QB (.int .i64 (n:Int)) ?_
  refine ck (fun xs=>∃ k:Nat,k≤n∧xs=[.int .i64 (k:Int)]∧∀ y∈ls.take k,y.person=person) (fun xs=>match xs with|.int _ k::_=>n-k.toNat|_=>0) (fun α=>⟨0,ab,aa,ai⟩) ?_
  rintro xs-⟨k,hk,rfl,hI⟩
  refine QF (.bool (decide (k<n))) (dD k n) ?_
  refine QD (decide (k<n)) (fun h1=>?_) (fun h1=>?_)
  ·have h1:k<n:=af h1
   obtain⟨z,hz⟩:∃ z,ls[k]?=some z:=⟨_,List.getElem?_eq_getElem ab⟩
   refine QM A n c k hA h1 ?_
   refine QN (f:=bE) (l:=ls) (fU z) A n c k z hA h1 (cast aa hK1) hz ?_
   refine QB (.bool ((z.person:Int) != person)) ?_
   refine QD ((z.person:Int) != person) (fun h2=>?_) (fun h2=>?_)
   ·have h2:z.person≠person:=af h2
    have hno:decide (IR ls person)=false:=decide_eq_false fun h=>h2 (h.2 z (List.mem_of_getElem? hz))
    refine QF (.bool (decide (0≤k))) (gu k 0) ?_
    refine QB (.bool (!decide (0≤k))) ?_
    rw [hno]
    exact QE (.bool (!decide (0≤k))) ai
   have h2:z.person=person:=af h2
   refine QF (.int .i64 ((k+1:Nat):Int)) (cC (a:=k) (b:=1) (d:=k+1) rfl ab) ?_
   exact bW rfl (fun α=>⟨k+1,ab,aa,(tr hz).2 ⟨hI,h2⟩⟩) (fun α=>cast aa (show n-((k+1:Nat):Int).toNat<n-(k:Int).toNat by omega))
  have h1:¬ k<n:=af h1
  have hyes:decide (IR ls person)=true:=decide_eq_true ⟨h3,by rw [List.take_of_length_le ab]at hI;exact hI⟩
  rw [hyes]
  exact QE (.bool true) rfl
 have h3:¬ eT ls=0:=af h3
 have hno:decide (IR ls person)=false:=decide_eq_false fun h=>h3 h.1
 rw [hno]
 exact QE (.bool false) rfl
def gG(s:Int):Prop:=0≤s∧s≤1099511627776
def cu(ls:List cf)(ss:List Int)(person:Int):Prop:=1≤ls.length∧ls.length≤64∧ss.length=ls.length∧IR ls person∧∀ s∈ss,gG s
noncomputable instance (ls:List cf) (ss:List Int) (person:Int):Decidable (cu ls ss person):=Classical.propDecidable _
theorem j3(l:List Int):(qU l).length=l.length:=by have:=SX.aL (f:=fun k:Int=>[Value.int .i64 k]) (sz:=1) al l;rw [Nat.mul_one]at this;exact this
theorem Oj{β:Type}{l:List β}{i:Nat}{z:β}(hz:l[i]?=some z){P:β→Prop}(h:∀ q∈l.take i,P q)(hp:P z):∀ q∈l.take (i+1),P q:=fun q hq=>by
 rw [List.take_add_one,hz]at hq
 rcases List.mem_append.1 hq with hq|hq
 ·exact h q hq
 have:q=z:=af hq
 rw [this];exact hp
def Qf(f:FuncId)(xs:List SX.Arg)(v:Value):Prop:=f=39∧∃ (u:Value) (ls:List cf) (person:Int),xs=[⟨u,9,lQ ls⟩,⟨.int .i64 person,0,[]⟩]∧ls.length≤1000000000∧ju ls∧v=.bool (decide (IR ls person))
noncomputable def MV(K A:QV):SX.Cx:={ P:=Tryz.prog,R:=fun _=>Qf,shp:=fun f=>if f=39 then some .one else none,K:=K,A:=A,trm:=true }
theorem Po(K A:QV):(MV K A).Ok:=by
 refine SX.Cx.b6 al ?_
 intro K f xs v W hR hrd hKf
 obtain⟨rfl,u,ls,person,rfl,hl,hf,rfl⟩:=hR
 obtain⟨A,n,c,rfl,h2,h3,h4⟩:=lR (hrd ⟨u,9,lQ ls⟩ ai)
 exact(qT ls person A n c W h2 h3 ab hf).mono fun e w' h=>ay rfl h
def pz:SX.Tree :=
(.df (.len false) [(.q 0)] .one
(.df (.bin .geq 3) [(.q 3),(.i 1)] .one
(.br 4 []
(.df (.len false) [(.q 0)] .one
(.df (.bin .leq 3) [(.q 5),(.i 64)] .one
(.br 6 []
(.df (.len false) [(.q 1)] .one
(.df (.len false) [(.q 0)] .one
(.df (.bin .eql 3) [(.q 7),(.q 8)] .one
(.br 9 []
(.df (.call 39 [(.ext 9),.no]) [(.q 0),(.q 2)] .one
(.br 10 []
(.df (.len false) [(.q 1)] .one
(.loop [(.i 0)] [.one]
(.df (.bin .lss 3) [(.q 12),(.q 11)] .one
(.br 13 []
(.df .bnd [(.q 1),(.q 12)] .one
(.df (.elem 1 0) [(.q 1),(.q 12)] .one
(.df (.bin .geq 3) [(.q 15),(.i 0)] .one
(.br 16 []
(.df (.bin .leq 3) [(.q 15),(.i 1099511627776)] .one
(.df .not [(.q 17)] .one
(.br 18 []
(.df (.bin .geq 3) [(.q 12),(.i 0)] .one
(.df .not [(.q 19)] .one
(.ret (.q 20) [] [])))
(.df (.bin .add 3) [(.q 12),(.i 1)] .one
(.again 0 [(.q 19)])))))
(.df (.bin .geq 3) [(.q 12),(.i 0)] .one
(.df .not [(.q 17)] .one
(.ret (.q 18) [] [])))))))
(.ret (.k (.bool true)) [] [])))))
(.ret (.k (.bool false)) [] [])))
(.ret (.k (.bool false)) [] [])))))
(.ret (.k (.bool false)) [] []))))
(.ret (.k (.bool false)) [] []))))
def xm:List SX.V:=[.a [.x 0 [],.x 1 []],.x 2 []]
def FO:kp:=⟨fun f=>true,[⟨77,2,[(.s 8,.one)]⟩],0,100⟩
theorem Bd(K A:QV):QU (MV K A) FO 17 Tryz.f17 xm [.one,.one,.one]=pz:=aa
theorem uv(ls:List cf)(ss:List Int)(person:Int)(A:Option Addr)(n c:Nat)(B:Option Addr)(m d:Nat)(w:World)(hr:Rd w 9 A n (lQ ls))(hc:n≤c)(hr2:Rd w 1 B m (qU ss))(hd:m≤d)(hl:n≤1000000000)(hm:m≤1000000000)(hf:ju ls):RT 17 #[.agg #[.slice A n c,.slice B m d],.int .i64 person] w (.bool (decide (cu ls ss person))):=by
 refine QG (Bd (KW w) QW) [.slice A n c,.slice B m d,.int .i64 person] (Po _ _) Tryz.func17 ?_ ?_
 ·exact fun W hW v z xs h=>h W hW
 have hB:=SX.rd_some hr2
 have hln:ls.length=n:=by have:=hr.1;rw [j5]at this;omega
 have hlm:ss.length=m:=by have:=hr2.1;rw [j3]at this;omega
 have hK1:KW w (.slice A n c) 9 (lQ ls):=fun W hW=>⟨hr.aJ hW,hc⟩
 have hK2:KW w (.slice B m d) 1 (qU ss):=fun W hW=>⟨hr2.aJ hW,hd⟩
 unfold pz
 refine QB (.int .i64 (n:Int)) ?_
 refine QF (.bool (decide (1≤n))) (gu n 1) ?_
 refine QD (decide (1≤n)) (fun g1=>?_) (fun g1=>?_)
 case refine_2 =>
  have g1:¬ 1≤n:=af g1
  rw [decide_eq_false fun h:cu ls ss person=>g1 (by have:=h.1;omega)]
  exact QE (.bool false) rfl
 have g1:1≤n:=af g1
 refine QB (.int .i64 (n:Int)) ?_
 refine QB (.bool (decide ((n:Int)≤64))) ?_
 refine QD (decide ((n:Int)≤64)) (fun g2=>?_) (fun g2=>?_)
 case refine_2 =>
  have g2:¬ (n:Int)≤64:=af g2
  rw [decide_eq_false fun h:cu ls ss person=>g2 (by have:=h.2.1;omega)]
  exact QE (.bool false) rfl
 have g2:(n:Int)≤64:=af g2
 refine QB (.int .i64 (m:Int)) ?_
 refine QB (.int .i64 (n:Int)) ?_
 refine QB (.bool (decide ((m:Int)=(n:Int)))) ?_
 refine QD (decide ((m:Int)=(n:Int))) (fun g3=>?_) (fun g3=>?_)
 case refine_2 =>
  have g3:¬ (m:Int)=(n:Int):=af g3
  rw [decide_eq_false fun h:cu ls ss person=>g3 (by have:=h.2.2.1;omega)]
  exact QE (.bool false) rfl
 have g3:(m:Int)=(n:Int):=of_decide_eq_true g3
 refine QC (.bool (decide (IR ls person))) (fun α=>⟨[⟨.slice A n c,9,lQ ls⟩,⟨.int .i64 person,0,[]⟩],⟨aa,rfl,cast aa hK1,aa,aa,trivial⟩,⟨rfl,_,ls,person,rfl,ab,hf,rfl⟩,ap rfl⟩) ?_
 refine QD (decide (IR ls person)) (fun g4=>?_) (fun g4=>?_)
 case refine_2 =>
  rw [decide_eq_false fun h:cu ls ss person=>(of_decide_eq_false g4) h.2.2.2.1]
  exact QE (.bool false) rfl
 have g4:IR ls person:=of_decide_eq_true g4
 refine QB (.int .i64 (m:Int)) ?_
 refine ck (fun xs=>∃ k:Nat,k≤m∧xs=[.int .i64 (k:Int)]∧∀ s∈ss.take k,gG s) (fun xs=>match xs with|.int _ k::_=>m-k.toNat|_=>0) (fun α=>⟨0,ab,aa,ai⟩) ?_
 rintro xs-⟨k,hk,rfl,hI⟩
 refine QF (.bool (decide (k<m))) (dD k m) ?_
 refine QD (decide (k<m)) (fun h1=>?_) (fun h1=>?_)
 ·have h1:k<m:=af h1
  obtain⟨s,hs⟩:∃ s,ss[k]?=some s:=⟨_,List.getElem?_eq_getElem ab⟩
  refine QM B m d k hB h1 ?_
  refine QC (.int .i64 s) (fun α=>cS (o:=0) (v:=.int .i64 s) (f:=fun k:Int=>[Value.int .i64 k]) (l:=ss) (A:=B) (n:=m) (c:=d) (j:=k) (z:=s) al hB aa aa h1 (cast aa hK2) hs aj aa) ?_
  refine QB (.bool (decide (s≥0))) ?_
  refine QD (decide (s≥0)) (fun h2=>?_) (fun h2=>?_)
  ·have h2:s≥0:=af h2
   refine QB (.bool (decide (s≤1099511627776))) ?_
   refine QB (.bool (!decide (s≤1099511627776))) ?_
   refine QD (!decide (s≤1099511627776)) (fun h3=>?_) (fun h3=>?_)
   ·have h3:¬ s≤1099511627776:=af h3
    refine QF (.bool (decide (0≤k))) (gu k 0) ?_
    refine QB (.bool (!decide (0≤k))) ?_
    rw [decide_eq_false fun h:cu ls ss person=>h3 (h.2.2.2.2 s (List.mem_of_getElem? hs)).2]
    exact QE (.bool (!decide (0≤k))) ai
   have h3:s≤1099511627776:=af h3
   refine QF (.int .i64 ((k+1:Nat):Int)) (cC (a:=k) (b:=1) (d:=k+1) rfl ab) ?_
   exact bW rfl (fun α=>⟨k+1,ab,aa,Oj hs hI ⟨h2,h3⟩⟩) (fun α=>cast aa (show m-((k+1:Nat):Int).toNat<m-(k:Int).toNat by omega))
  have h2:¬ s≥0:=af h2
  refine QF (.bool (decide (0≤k))) (gu k 0) ?_
  refine QB (.bool (!decide (0≤k))) ?_
  rw [decide_eq_false fun h:cu ls ss person=>h2 (h.2.2.2.2 s (List.mem_of_getElem? hs)).1]
  exact QE (.bool (!decide (0≤k))) ai
 have h1:¬ k<m:=af h1
 have hyes:cu ls ss person:=⟨ab,ab,ab,g4,by rw [List.take_of_length_le ab]at hI;exact hI⟩
 rw [decide_eq_true hyes]
 exact QE (.bool true) rfl
noncomputable instance (s:Int):Decidable (gG s):=Classical.propDecidable _
theorem gp:∀ a b:List W8,a.map w8=b.map w8→a=b:=fun a b h=>(List.map_inj_right fun x y e=>by
 have:(x.toNat:Int)=(y.toNat:Int):=by simpa [w8]using e
 exact BitVec.eq_of_toNat_eq ab).1 h
def sn:SX.Tree :=
(.df (.bin .geq 3) [(.q 0),(.i 0)] .one
(.br 1 []
(.df (.bin .leq 3) [(.q 0),(.i 1099511627776)] .one
(.ret (.q 2) [] []))
(.ret (.k (.bool false)) [] [])))
def zF:List SX.V:=[.x 0 []]
theorem EC(K A:QV):QU (K6 K A) ⟨fun f=>true,[],0,100⟩ 42 Tryz.f42 zF [.one]=sn:=aa
theorem H6(s:Int)(w:World):RT 42 #[.int .i64 s] w (.bool (decide (gG s))):=by
 refine QG (EC QW QW) [.int .i64 s] (BV _ _) Tryz.func42 (fun _ _ _ _ _ h=>h.elim) ?_
 unfold sn
 refine QB (.bool (decide (s≥0))) ?_
 refine QD (decide (s≥0)) (fun h1=>?_) (fun h1=>?_)
 ·have h1:s≥0:=af h1
  refine QB (.bool (decide (s≤1099511627776))) ?_
  have e:decide (gG s)=decide (s≤1099511627776):=by
   by_cases h:s≤1099511627776
   ·have h2:gG s:=⟨h1,h⟩
    rw [decide_eq_true h,decide_eq_true h2]
   rw [decide_eq_false h,decide_eq_false fun h2:gG s=>h h2.2]
  rw [e]
  exact QE (.bool (decide (s≤1099511627776))) rfl
 have h1:¬ s≥0:=af h1
 rw [decide_eq_false fun h2:gG s=>h1 h2.1]
 exact QE (.bool false) rfl
def bq(person count:Int)(root:Dg)(k s:Int)(x:cf)(p:List Dg):Prop:=1≤count∧count≤64∧0≤k∧k<count∧gG s∧x.person=person∧∃ d,bc count.toNat k.toNat (bP (bI (aG (aC k x s)))) p=some d∧cr d=cr root
noncomputable instance (person count:Int) (root:Dg) (k s:Int) (x:cf) (p:List Dg):Decidable (bq person count root k s x p):=Classical.propDecidable _
def J9:FuncId→Option SX.Sh:=fun f=>if f∈[74,39,17,42,37,30]then some .one else if f∈[32,21]then some (.sl 1)else if f=65 then some (.tp [.ag 32,.one])else if f=18 then some (.ag 32)else if f=27 then some (.tp [.sl 32,.one])else if f=20 then some (.tp [.ag 2,.one])else none
def Qg(K:QV)(f:FuncId)(xs:List SX.Arg)(v:Value):Prop :=
 (f=42∧∃ s:Int,xs=[⟨.int .i64 s,0,[]⟩]∧v=.bool (decide (gG s))) ∨
 (f=32∧∃ (k s:Int) (x:cf),xs=[⟨.int .i64 k,0,[]⟩,⟨fU x,0,[]⟩,⟨.int .i64 s,0,[]⟩]∧(∀ z∈aC k x s,z.fits)∧v=.agg ((aG (aC k x s)).flatMap c8).toArray) ∨
 (f=65∧bn K∧∃ (n i:Nat) (u u2:Value) (X:List W8) (p:List Dg),xs=[⟨.int .i64 (n:Int),0,[]⟩,⟨.int .i64 (i:Int),0,[]⟩,⟨u,1,X.flatMap c8⟩,⟨u2,32,bf p⟩]∧i<n∧n≤65536∧X≠[]∧X.length≤17592186044416∧v=il (bc n i (bP (bI X)) p))
noncomputable def MW(K A:QV):SX.Cx:={ P:=Tryz.prog,R:=Qg,shp:=J9,K:=K,A:=A,trm:=true }
theorem Pp(K A:QV):(MW K A).Ok:=by
 refine SX.Cx.b6 al ?_
 intro K f xs v W hR hrd hKf
 rcases hR with ⟨rfl,s,rfl,rfl⟩|⟨rfl,k,s,x,rfl,hf,rfl⟩|⟨rfl,hL,n,i,u,u2,X,p,rfl,hi,hn,hX,hXl,rfl⟩
 ·exact(H6 s W).mono fun e w' h=>ay rfl h
 ·exact Calls.mono (qY k s x W hf) fun e w' h=>aH.tc rfl h
 obtain⟨A,a,e,rfl,h1,h2⟩:=bj (hrd ⟨u,1,X.flatMap c8⟩ ai)
 obtain⟨B,m,c,rfl,h3,h4⟩:=bj (hrd ⟨u2,32,bf p⟩ ai)
 exact(tH n i X p A a e B m c W hi hn h1 h2 hX hXl h3 h4 (bF hL hKf)).mono fun e w' h=>ay rfl h
def sg:SX.Tree :=
(.df (.bin .lss 3) [(.x 0 [1]),(.i 1)] .one
(.br 3 []
(.ret (.k (.bool false)) [] [])
(.df (.bin .gtr 3) [(.x 0 [1]),(.i 64)] .one
(.br 4 []
(.ret (.k (.bool false)) [] [])
(.df (.bin .lss 3) [(.x 1 [0]),(.i 0)] .one
(.br 5 []
(.ret (.k (.bool false)) [] [])
(.df (.bin .geq 3) [(.x 1 [0]),(.x 0 [1])] .one
(.br 6 []
(.ret (.k (.bool false)) [] [])
(.df (.call 42 [.no]) [(.x 1 [1])] .one
(.df .not [(.q 7)] .one
(.br 8 []
(.ret (.k (.bool false)) [] [])
(.df (.bin .neq 3) [(.x 1 [3]),(.x 0 [0])] .one
(.br 9 []
(.ret (.k (.bool false)) [] [])
(.df (.call 32 [.no,.no,.no]) [(.x 1 [0]),(.a (QJ 1 2 9)),(.x 1 [1])] (.sl 1)
(.df (.call 65 [.no,.no,(.row 1 [(.q 10)]),(.ext 32)]) [(.x 0 [1]),(.x 1 [0]),(.row 12),(.q 2)] (.tp [(.ag 32),.one])
(.df (.bin .eql 32) [(.x 11 [1]),(.i 0)] .one
(.br 12 []
(.df (.eqr false 32 (QL 32 (.i .u8))) [(.x 11 [0,0]),(.x 11 [0,1]),(.x 11 [0,2]),(.x 11 [0,3]),(.x 11 [0,4]),(.x 11 [0,5]),(.x 11 [0,6]),(.x 11 [0,7]),(.x 11 [0,8]),(.x 11 [0,9]),(.x 11 [0,10]),(.x 11 [0,11]),(.x 11 [0,12]),(.x 11 [0,13]),(.x 11 [0,14]),(.x 11 [0,15]),(.x 11 [0,16]),(.x 11 [0,17]),(.x 11 [0,18]),(.x 11 [0,19]),(.x 11 [0,20]),(.x 11 [0,21]),(.x 11 [0,22]),(.x 11 [0,23]),(.x 11 [0,24]),(.x 11 [0,25]),(.x 11 [0,26]),(.x 11 [0,27]),(.x 11 [0,28]),(.x 11 [0,29]),(.x 11 [0,30]),(.x 11 [0,31]),(.x 0 [2]),(.x 0 [3]),(.x 0 [4]),(.x 0 [5]),(.x 0 [6]),(.x 0 [7]),(.x 0 [8]),(.x 0 [9]),(.x 0 [10]),(.x 0 [11]),(.x 0 [12]),(.x 0 [13]),(.x 0 [14]),(.x 0 [15]),(.x 0 [16]),(.x 0 [17]),(.x 0 [18]),(.x 0 [19]),(.x 0 [20]),(.x 0 [21]),(.x 0 [22]),(.x 0 [23]),(.x 0 [24]),(.x 0 [25]),(.x 0 [26]),(.x 0 [27]),(.x 0 [28]),(.x 0 [29]),(.x 0 [30]),(.x 0 [31]),(.x 0 [32]),(.x 0 [33])] .one
(.ret (.q 13) [] []))
(.ret (.k (.bool false)) [] []))))))))))))))))))
def qw:List SX.V:=[.a ([.x 0 [0],.x 0 [1]]++((List.range 32).map fun j=>.x 0 [2+j])++[.x 0 [34],.x 0 [35]]),.a ([.x 1 [0],.x 1 [1]]++((List.range 9).map fun j=>.x 1 [2+j])++[.x 2 []])]
theorem Ex(K A:QV):QU (MW K A) ⟨fun f=>true,[],0,100⟩ 30 Tryz.f30 qw [.ag 36,.ag 11,.one]=sg:=aa
def bR(k s:Int)(x:cf)(hdr:Value):Value:=.agg ([Value.int .i64 k,Value.int .i64 s]++bE x++[hdr]).toArray
theorem qO(person count E S:Int)(root:Dg)(k s:Int)(x:cf)(p:List Dg)(B:Option Addr)(m c:Nat)(w:World)(hr:Rd w 32 B m (bf p))(hc:m≤c)(hf:∀ z∈aC k x s,z.fits)(hlaid:Laid w):RT 30 #[aX person count root E S,bR k s x (.slice B m c)] w (.bool (decide (bq person count root k s x p))):=by
 refine QG (Ex (KW w) QW) [aX person count root E S,.agg ([Value.int .i64 k,Value.int .i64 s]++bE x).toArray,.slice B m c] (Pp _ _) Tryz.func30 ?_ ?_
 ·exact fun W hW v z xs h=>h W hW
 have hL:bn (KW w):=dj hlaid
 have hK1:KW w (.slice B m c) 32 (bf p):=fun W hW=>⟨hr.aJ hW,hc⟩
 unfold sg
 refine QB (.bool (decide (count<1))) ?_
 refine QD (decide (count<1)) (fun g=>?_) (fun g1=>?_)
 ·rw [decide_eq_false fun h:bq person count root k s x p=>absurd (of_decide_eq_true g) (by have:=h.1;omega)]
  exact QE (.bool false) rfl
 have g1:=of_decide_eq_false g1
 refine QB (.bool (decide (count>64))) ?_
 refine QD (decide (count>64)) (fun g=>?_) (fun g2=>?_)
 ·rw [decide_eq_false fun h:bq person count root k s x p=>absurd (of_decide_eq_true g) (by have:=h.2.1;omega)]
  exact QE (.bool false) rfl
 have g2:=of_decide_eq_false g2
 refine QB (.bool (decide (k<0))) ?_
 refine QD (decide (k<0)) (fun g=>?_) (fun g3=>?_)
 ·rw [decide_eq_false fun h:bq person count root k s x p=>absurd (of_decide_eq_true g) (by have:=h.2.2.1;omega)]
  exact QE (.bool false) rfl
 have g3:=of_decide_eq_false g3
 refine QB (.bool (decide (k≥count))) ?_
 refine QD (decide (k≥count)) (fun g=>?_) (fun g4=>?_)
 ·rw [decide_eq_false fun h:bq person count root k s x p=>absurd (of_decide_eq_true g) (by have:=h.2.2.2.1;omega)]
  exact QE (.bool false) rfl
 have g4:=of_decide_eq_false g4
 refine QC (.bool (decide (gG s))) (fun α=>⟨[⟨.int .i64 s,0,[]⟩],QP,.inl ⟨rfl,s,rfl,rfl⟩,ap rfl⟩) ?_
 refine QB (.bool (!decide (gG s))) ?_
 refine QD (!decide (gG s)) (fun g=>?_) (fun g5=>?_)
 ·have g:¬ gG s:=af g
  rw [decide_eq_false fun h:bq person count root k s x p=>g h.2.2.2.2.1]
  exact QE (.bool false) rfl
 have g5:gG s:=af g5
 refine QB (.bool ((x.person:Int) != person)) ?_
 refine QD ((x.person:Int) != person) (fun g=>?_) (fun g6=>?_)
 ·have g:x.person≠person:=af g
  rw [decide_eq_false fun h:bq person count root k s x p=>g h.2.2.2.2.2.1]
  exact QE (.bool false) rfl
 have g6:x.person=person:=af g6
 obtain⟨n,rfl⟩:∃ n:Nat,count=n:=⟨count.toNat,ab⟩
 obtain⟨i,rfl⟩:∃ i:Nat,k=i:=⟨k.toNat,ab⟩
 have hlt:=fe hf (by simp [aC])
 have hne:aG (aC (i:Int) x s)≠[]:=List.cons_ne_nil _ _
 have hfp:bq person (n:Int) root (i:Int) s x p↔∃ d,bc n i (bP (bI (aG (aC (i:Int) x s)))) p=some d∧cr d=cr root:=⟨fun h=>h.2.2.2.2.2.2,fun h=>⟨ab,ab,ab,ab,g5,g6,h⟩⟩
 refine aO (.agg ((aG (aC (i:Int) x s)).flatMap c8).toArray) (fun α=>⟨[⟨.int .i64 (i:Int),0,[]⟩,⟨fU x,0,[]⟩,⟨.int .i64 s,0,[]⟩],QR,.inr (.inl ⟨rfl,_,s,x,rfl,hf,rfl⟩),ap rfl⟩) (bg _) ?_
 generalize aG (aC (i:Int) x s)=X at *
 refine aO (il (bc n i (bP (bI X)) p)) (fun α=>⟨[⟨.int .i64 (n:Int),0,[]⟩,⟨.int .i64 (i:Int),0,[]⟩,⟨(α 12).h,1,X.flatMap c8⟩,⟨.slice B m c,32,bf p⟩],⟨aa,aa,aa,aa,Eq.trans (da (α 12).h 1 (X.flatMap c8)) aa,rfl,rfl,cast aa hK1,trivial⟩,.inr (.inr ⟨rfl,hL,n,i,_,_,X,p,rfl,ab,ab,hne,ab,rfl⟩),ap rfl⟩) (by cases bc n i (bP (bI X)) p<;>rfl) ?_
 generalize bc n i (bP (bI X)) p=o at *
 cases o with
 | none =>
  refine QB (.bool false) ?_
  refine QD false (fun h=>nomatch h) (fun _=>?_)
  rw [decide_eq_false fun h:bq person (n:Int) root (i:Int) s x p=>by obtain⟨d,h,_⟩:=hfp.1 h;cases h]
  exact QE (.bool false) rfl
 | some d =>
  refine QB (.bool true) ?_
  refine QD true (fun _=>?_) (fun h=>nomatch h)
  refine QC (.bool (false ^^ decide (cr d=cr root))) (fun α=>fH (f:=(fun l:List W8=>l.map w8)) gp (y:=cr d) (z:=cr root) aa aa aa) ?_
  have e:decide (bq person (n:Int) root (i:Int) s x p)=(false ^^ decide (cr d=cr root)):=by
   by_cases h:cr d=cr root
   ·have h2:bq person (n:Int) root (i:Int) s x p:=hfp.2 ⟨d,rfl,h⟩
    rw [decide_eq_true h,decide_eq_true h2];rfl
   rw [decide_eq_false h,decide_eq_false fun h2:bq person (n:Int) root (i:Int) s x p=>h (by obtain⟨d2,h3,h4⟩:=hfp.1 h2;cases h3;exact h4)];rfl
  rw [e]
  exact QE (.bool (false ^^ decide (cr d=cr root))) rfl
theorem fw(l:List W8):sb (bt l)=l:=by
 unfold sb bt
 simp only [List.map_map]
 exact(List.map_congr_left fun x _=>rfl).trans (List.map_id l)
theorem lF(l:List W8):(bt l).size=l.length:=by rw [← lg,fw]
theorem r5{person count:Int}{root:Dg}(hf:∀ z∈bJ person count root,z.fits):(aG (bJ person count root)).length≤1048576:=by
 have h1:=hf (.n person) (by simp [bJ])
 have h2:=hf (.n count) (by simp [bJ])
 have a1:=cU 9 (eX person) (by have:=lZ h1.1 h1.2;omega)
 have a2:=cU 9 (eX count) (by have:=lZ h2.1 h2.2;omega)
 have a3:=cU 9 (bJ person count root).length (by simp [bJ])
 have e1:(bt (cr root)).size=32:=lF _
 have a4:=cU 9 32 aj
 have a5:=cU 9 gU.size aj
 have e2:gU.size=6:=rfl
 have e3:(sb gU).length=6:=by rw [lg];rfl
 have e4:(sb (bt (cr root))).length=32:=by rw [lg,e1]
 unfold aG
 simp only [LL]
 simp only [bJ,List.flatMap_cons,List.flatMap_nil,List.length_append,List.length_nil,fb,List.length_cons,e1,e3,e4]at a3 ⊢
 omega
def db(key person count E S:Int)(root:Dg)(k s:Int)(x:cf)(p:List Dg):Prop:=bq person count root k s x p∧gn key (bt (aG (bJ person count root))) E S=true
noncomputable instance (key person count E S:Int) (root:Dg) (k s:Int) (x:cf) (p:List Dg):Decidable (db key person count E S root k s x p):=Classical.propDecidable _
def Qh(K:QV)(f:FuncId)(xs:List SX.Arg)(v:Value):Prop :=
 (f=30∧bn K∧∃ (person count E S:Int) (root:Dg) (k s:Int) (x:cf) (p:List Dg) (hdr:Value),xs=[⟨aX person count root E S,0,[]⟩,⟨bR k s x hdr,0,[]⟩]∧K hdr 32 (bf p)∧(∀ z∈aC k x s,z.fits)∧v=.bool (decide (bq person count root k s x p))) ∨
 (f=21∧∃ (person count E S:Int) (root:Dg),xs=[⟨aX person count root E S,0,[]⟩]∧(∀ z∈bJ person count root,z.fits)∧v=.agg ((aG (bJ person count root)).flatMap c8).toArray) ∨
 (f=37∧bn K∧∃ (key:Int) (u:Value) (X:List W8) (E S:Int),xs=[⟨.int .i64 key,0,[]⟩,⟨u,1,X.flatMap c8⟩,⟨.agg #[.int .i64 E,.int .i64 S],0,[]⟩]∧X.length≤1048576∧v=.bool (gn key (bt X) E S))
noncomputable def MX(K A:QV):SX.Cx:={ P:=Tryz.prog,R:=Qh,shp:=J9,K:=K,A:=A,trm:=true }
theorem Pq(K A:QV):(MX K A).Ok:=by
 refine SX.Cx.b6 al ?_
 intro K f xs v W hR hrd hKf
 rcases hR with ⟨rfl,hL,person,count,E,S,root,k,s,x,p,hdr,rfl,hk,hf,rfl⟩|⟨rfl,person,count,E,S,root,rfl,hf,rfl⟩|⟨rfl,hL,key,u,X,E,S,rfl,hX,rfl⟩
 ·obtain⟨B,m,c,rfl,h3,h4⟩:=bj (hKf _ _ _ hk)
  exact(qO person count E S root k s x p B m c W h3 h4 hf (bF hL hKf)).mono fun e w' h=>ay rfl h
 ·exact Calls.mono (r6 person count E S root W hf) fun e w' h=>aH.tc rfl h
 obtain⟨A,a,e,rfl,h1,h2⟩:=bj (hrd ⟨u,1,X.flatMap c8⟩ ai)
 exact(BE key (bt X) A a e E S W (by rw [fw];exact h1) h2 (by rw [lF];exact hX) (bF hL hKf)).mono fun e w' h=>ay rfl h
def pw:SX.Tree :=
(.df (.call 30 [.no,.no]) [(.a (QJ 0 0 36)),(.a (QJ 1 0 11++[(.q 2)]))] .one
(.br 4 []
(.df (.call 21 [.no]) [(.a (QJ 0 0 36))] (.sl 1)
(.df (.call 37 [.no,(.row 1 [(.q 5)]),.no]) [(.q 3),(.row 8),(.a [(.x 0 [34]),(.x 0 [35])])] .one
(.ret (.q 6) [] [])))
(.ret (.k (.bool false)) [] [])))
def oX:List SX.V:=[.x 3 [],.a ([.x 0 [0],.x 0 [1]]++((List.range 32).map fun j=>.x 0 [2+j])++[.x 0 [34],.x 0 [35]]),.a ([.x 1 [0],.x 1 [1]]++((List.range 9).map fun j=>.x 1 [2+j])++[.x 2 []])]
theorem Bc(K A:QV):QU (MX K A) ⟨fun f=>true,[],0,100⟩ 14 Tryz.f14 oX [.ag 36,.ag 11,.one,.one]=pw:=aa
theorem tG(key person count E S:Int)(root:Dg)(k s:Int)(x:cf)(p:List Dg)(B:Option Addr)(m c:Nat)(w:World)(hr:Rd w 32 B m (bf p))(hc:m≤c)(hf:∀ z∈aC k x s,z.fits)(hf2:∀ z∈bJ person count root,z.fits)(hlaid:Laid w):RT 14 #[.int .i64 key,aX person count root E S,bR k s x (.slice B m c)] w (.bool (decide (db key person count E S root k s x p))):=by
 refine QG (Bc (KW w) QW) [aX person count root E S,.agg ([Value.int .i64 k,Value.int .i64 s]++bE x).toArray,.slice B m c,.int .i64 key] (Pq _ _) Tryz.func14 ?_ ?_
 ·exact fun W hW v z xs h=>h W hW
 have hL:bn (KW w):=dj hlaid
 have hK1:KW w (.slice B m c) 32 (bf p):=fun W hW=>⟨hr.aJ hW,hc⟩
 have hsl:=r5 hf2
 unfold pw
 refine QC (.bool (decide (bq person count root k s x p))) (fun α=>⟨[⟨aX person count root E S,0,[]⟩,⟨bR k s x (.slice B m c),0,[]⟩],QQ,.inl ⟨rfl,hL,person,count,E,S,root,k,s,x,p,_,rfl,hK1,hf,rfl⟩,ap rfl⟩) ?_
 refine QD (decide (bq person count root k s x p)) (fun g=>?_) (fun g=>?_)
 ·have g:=of_decide_eq_true g
  refine aO (.agg ((aG (bJ person count root)).flatMap c8).toArray) (fun α=>⟨[⟨aX person count root E S,0,[]⟩],QP,.inr (.inl ⟨rfl,person,count,E,S,root,rfl,hf2,rfl⟩),ap rfl⟩) (bg _) ?_
  have e:decide (db key person count E S root k s x p)=gn key (bt (aG (bJ person count root))) E S:=by
   cases hv:gn key (bt (aG (bJ person count root))) E S with
   | true =>
    have h2:db key person count E S root k s x p:=⟨g,hv⟩
    exact decide_eq_true h2
   | false=>exact decide_eq_false fun h2:db key person count E S root k s x p=>by have:=h2.2;rw [hv]at this;cases this
  rw [e]
  generalize aG (bJ person count root)=X at *
  refine QC (.bool (gn key (bt X) E S)) (fun α=>⟨[⟨.int .i64 key,0,[]⟩,⟨(α 8).h,1,X.flatMap c8⟩,⟨.agg #[.int .i64 E,.int .i64 S],0,[]⟩],⟨aa,aa,Eq.trans (da (α 8).h 1 (X.flatMap c8)) aa,aa,aa,trivial⟩,.inr (.inr ⟨rfl,hL,key,_,X,E,S,rfl,hsl,rfl⟩),ap rfl⟩) ?_
  exact QE (.bool (gn key (bt X) E S)) rfl
 have g:=of_decide_eq_false g
 rw [decide_eq_false fun h2:db key person count E S root k s x p=>g h2.1]
 exact QE (.bool false) rfl
def wi(hs:List dY)(ls:List cf)(ss:List Int):List Pb:=hs.mapIdx fun j h=>(gJ h,pU ls ss j)
theorem LY(hs:List dY)(ls:List cf)(ss:List Int):(wi hs ls ss).map (·.1)=hs.flatMap aA:=by
 unfold wi
 have e:hs.flatMap aA=hs.map gJ:=by
  induction hs with
  | nil=>rfl
  | cons a r ih=>rw [List.flatMap_cons,List.map_cons,ih];rfl
 rw [e]
 apply List.ext_getElem
 ·simp
 intro i h1 h2;simp
theorem wj(hs:List dY)(ls:List cf)(ss:List Int):(wi hs ls ss).length=hs.length:=by unfold wi;simp
def sV(ls:List cf)(ss:List Int):List Dg:=(List.range ls.length).map fun j=>bP (bI (pU ls ss j))
theorem Cp{hs:List dY}{ls:List cf}{ss:List Int}(h:hs.length=ls.length):(wi hs ls ss).map oC=sV ls ss:=by
 unfold wi sV
 apply List.ext_getElem
 ·simp [h]
 intro i h1 h2;simp [oC]
theorem wm{hs:List dY}{ls:List cf}{ss:List Int}{p:Pb}(h:p∈wi hs ls ss):∃ j t,hs[j]?=some t∧p=(gJ t,pU ls ss j):=by
 obtain⟨j,hj,rfl⟩:=List.getElem_of_mem h
 unfold wi at hj ⊢
 simp only [List.length_mapIdx]at hj
 exact⟨j,hs[j],List.getElem?_eq_getElem hj,ai⟩
def JD(hdr:Value)(hs:List dY)(ls:List cf)(ss:List Int):List SX.Arg:=⟨hdr,1,(wi hs ls ss).map (·.1)⟩::(wi hs ls ss).map fun p=>⟨p.1,1,p.2.flatMap c8⟩
def OO(K:QV)(f:FuncId)(xs:List SX.Arg)(Q:Value→List SX.Arg→Prop):Prop:=f=19∧∃ (u1 u2:Value) (ls:List cf) (ss:List Int),xs=[⟨.agg #[u1,u2],0,[]⟩]∧K u1 9 (lQ ls)∧K u2 1 (qU ss)∧ls.length=ss.length∧ls.length≤1000000∧(∀ i,i<ls.length→∀ z∈aC (i:Int) (ls.getD i default) (ss.getD i 0),z.fits)∧∀ A n c hs,hs.length=ls.length→Q (.slice A n c) (JD (.slice A n c) hs ls ss)
theorem Hi{K:QV}{f:FuncId}{xs:List SX.Arg}{Q:Value→List SX.Arg→Prop}{W:World}(h:OO K f xs Q)(hK:∀ s sz cells,K s sz cells→SX.Arg.rd W ⟨s,sz,cells⟩):Calls Tryz.prog f (xs.map SX.Arg.v).toArray W fun e W'=>Below W.heap.size W W'∧∃ v N,e=.returned v∧SX.Sh.one.fit v=true∧Q v N∧∀ y∈N,y.rd W'∧fV W.heap.size y.v:=by
 obtain⟨rfl,u1,u2,ls,ss,rfl,k1,k2,hnm,hl,hf,hQ⟩:=h
 obtain⟨A,n,c,rfl,h1,h2⟩:=bj (hK _ _ _ k1)
 obtain⟨B,m,d,rfl,h3,h4⟩:=bj (hK _ _ _ k2)
 refine(At ls ss A n c B m d W h1 h2 h3 h4 hnm hl hf).mono fun e w' ⟨hb,hdr,hs,he,hl2,⟨⟨A2,n2,c2,hh,_⟩,g4,g5⟩,hh3⟩=>?_
 subst hh
 refine⟨hb,_,_,he,rfl,hQ A2 n2 c2 hs hl2,fun y hy=>?_⟩
 rcases List.mem_cons.1 hy with rfl|hy
 ·rw [LY]
  exact⟨g4,g5.resolve_right fun⟨y,hy,_⟩=>nomatch hy⟩
 obtain⟨p,hp,rfl⟩:=List.mem_map.1 hy
 obtain⟨j,t,ht,rfl⟩:=wm hp
 obtain⟨_,g6,g7⟩:=hh3 j t ht
 exact⟨g6,g7.resolve_right fun⟨y,hy,_⟩=>nomatch hy⟩
def Qj(K:QV)(f:FuncId)(xs:List SX.Arg)(v:Value):Prop :=
 (f=17∧∃ (u1 u2:Value) (ls:List cf) (ss:List Int) (person:Int),xs=[⟨.agg #[u1,u2],0,[]⟩,⟨.int .i64 person,0,[]⟩]∧K u1 9 (lQ ls)∧K u2 1 (qU ss)∧ls.length≤1000000000∧ss.length≤1000000000∧ju ls∧v=.bool (decide (cu ls ss person))) ∨
 (f=18∧bn K∧∃ (u:Value) (ps:List Pb),xs=[⟨u,1,ps.map (·.1)⟩]∧(∀ p∈ps,K p.1 1 (p.2.flatMap c8))∧ps≠[]∧ps.length≤1000000∧(∀ p∈ps,p.2≠[]∧p.2.length≤17592186044416)∧v=dK (gW (ps.map oC))) ∨
 (f=21∧∃ (person count E S:Int) (root:Dg),xs=[⟨aX person count root E S,0,[]⟩]∧(∀ z∈bJ person count root,z.fits)∧v=.agg ((aG (bJ person count root)).flatMap c8).toArray) ∨
 (f=20∧bn K∧∃ (key:Int) (u:Value) (X:List W8),xs=[⟨.int .i64 key,0,[]⟩,⟨u,1,X.flatMap c8⟩]∧X.length≤1048576∧v=.tuple #[.agg #[.int .i64 (fP key (bt X)).1,.int .i64 (fP key (bt X)).2.1],.int .i64 (fP key (bt X)).2.2])
noncomputable def Ac(nb:Nat)(K A:QV):SX.Cx:={ nsh:=fun f=>if f=19 then some .one else none,Rn:=OO,nb:=nb,P:=Tryz.prog,R:=Qj,shp:=J9,K:=K,A:=A,trm:=true }
theorem Ps(nb:Nat)(K A:QV):(Ac nb K A).Ok:=by
 refine SX.Cx.mo al ?_ fun f sh hs K xs Q W h hrd hK=>?_
 case refine_2 =>
  have hf:=h.1
  subst hf
  have hs:some SX.Sh.one=some sh:=hs
  cases hs
  exact Hi h hK
 intro K f xs v W hR hrd hKf
 rcases hR with ⟨rfl,u1,u2,ls,ss,person,rfl,k1,k2,hl,hl2,hf,rfl⟩|⟨rfl,hL,u,ps,rfl,hk,h0,hl,hp,rfl⟩|⟨rfl,person,count,E,S,root,rfl,hf,rfl⟩|⟨rfl,hL,key,u,X,rfl,hX,rfl⟩
 ·obtain⟨A,n,c,rfl,h1,h2,h3⟩:=lR (hKf _ _ _ k1)
  obtain⟨B,m,d,rfl,h4,h5⟩:=bj (hKf _ _ _ k2)
  exact(uv ls ss person A n c B m d W h1 h2 h4 h5 ab (by have:=h4.1;rw [j3]at this;omega) hf).mono fun e w' h=>ay rfl h
 ·obtain⟨A,n,c,rfl,h1,h2⟩:=bj (hrd ⟨u,1,ps.map (·.1)⟩ ai)
  exact(Hk ps A n c W h1 h2 h0 hl (fun p hm=>hKf _ _ _ (hk p hm)) hp (bF hL hKf)).mono fun e w' h=>ay rfl h
 ·exact Calls.mono (r6 person count E S root W hf) fun e w' h=>aH.tc rfl h
 obtain⟨A,a,e,rfl,h1,h2⟩:=bj (hrd ⟨u,1,X.flatMap c8⟩ ai)
 exact(Ih key (bt X) A a e W (by rw [fw];exact h1) h2 (by rw [lF];exact hX) (bF hL hKf)).mono fun e w' h=>ay rfl h
theorem ke{person count:Int}{root:Dg}(h1 : -9223372036854775808≤person∧person≤9223372036854775807)(h2 : -9223372036854775808≤count∧count≤9223372036854775807):∀ z∈bJ person count root,z.fits:=by
 intro z hz
 have e1:(bt (cr root)).size=32:=lF _
 simp only [bJ,List.mem_cons,List.not_mem_nil,or_false]at hz
 rcases hz with rfl|rfl|rfl|rfl
 ·exact(by decide:gU.size≤1048576)
 ·exact h1
 ·exact h2
 show(bt (cr root)).size≤1048576
 omega
noncomputable def iy(key person:Int)(ls:List cf)(ss:List Int):Value :=
 if key<1∨1073741789≤key then .tuple #[aX 0 0 (fun _=>0) 0 0,.int .i64 110]
 else if cu ls ss person then
  (
   let root:=gW (sV ls ss)
   let g:=fP key (bt (aG (bJ person (ls.length:Int) root)))
   .tuple #[aX person (ls.length:Int) root g.1 g.2.1,.int .i64 g.2.2])
 else .tuple #[aX 0 0 (fun _=>0) 0 0,.int .i64 350]
def sk:SX.Tree :=
(.df (.bin .lss 3) [(.q 0),(.i 1)] .one
(.br 4 []
(.ret (.t [(.a ([(.i 0),(.i 0)]++QL 32 (.k (.int .u8 0))++[(.i 0),(.i 0)])),(.i 110)]) [none] [])
(.df (.bin .geq 3) [(.q 0),(.i 1073741789)] .one
(.br 5 []
(.ret (.t [(.a ([(.i 0),(.i 0)]++QL 32 (.k (.int .u8 0))++[(.i 0),(.i 0)])),(.i 110)]) [none] [])
(.df (.call 17 [.no,.no]) [(.a [(.q 2),(.q 3)]),(.q 1)] .one
(.df .not [(.q 6)] .one
(.br 7 []
(.ret (.t [(.a ([(.i 0),(.i 0)]++QL 32 (.k (.int .u8 0))++[(.i 0),(.i 0)])),(.i 350)]) [none,none] [])
(.df (.len false) [(.q 2)] .one
(.df (.callq 19 [.no]) [(.a [(.q 2),(.q 3)])] .one
(.df (.call 18 [(.ext 1)]) [(.q 9)] (.ag 32)
(.df (.call 21 [.no]) [(.a ([(.q 1),(.q 8)]++QJ 10 0 32++[(.i 0),(.i 0)]))] (.sl 1)
(.df (.call 20 [.no,(.row 1 [(.q 11)])]) [(.q 0),(.row 2)] (.tp [(.ag 2),.one])
(.ret (.t [(.a [(.q 1),(.q 8),(.x 10 [0]),(.x 10 [1]),(.x 10 [2]),(.x 10 [3]),(.x 10 [4]),(.x 10 [5]),(.x 10 [6]),(.x 10 [7]),(.x 10 [8]),(.x 10 [9]),(.x 10 [10]),(.x 10 [11]),(.x 10 [12]),(.x 10 [13]),(.x 10 [14]),(.x 10 [15]),(.x 10 [16]),(.x 10 [17]),(.x 10 [18]),(.x 10 [19]),(.x 10 [20]),(.x 10 [21]),(.x 10 [22]),(.x 10 [23]),(.x 10 [24]),(.x 10 [25]),(.x 10 [26]),(.x 10 [27]),(.x 10 [28]),(.x 10 [29]),(.x 10 [30]),(.x 10 [31]),(.x 12 [0,0]),(.x 12 [0,1])]),(.x 12 [1])]) [none,none,none] [])))))))))))))
def zD:List SX.V:=[.x 0 [],.x 1 [],.x 2 [],.x 3 []]
theorem EA(nb:Nat)(K A:QV):QU (Ac nb K A) ⟨fun f=>f != 19,[],12,100⟩ 7 Tryz.f7 zD [.one,.one,.one,.one]=sk:=aa
theorem Iu(ls:List cf)(ss:List Int)(j:Nat):pU ls ss j≠[]:=List.cons_ne_nil _ _
theorem GD(key person:Int)(ls:List cf)(ss:List Int)(A:Option Addr)(n c:Nat)(B:Option Addr)(m d:Nat)(w:World)(hr:Rd w 9 A n (lQ ls))(hc:n≤c)(hr2:Rd w 1 B m (qU ss))(hd:m≤d)(hl:n≤1000000000)(hm:m≤1000000000)(hf:ju ls)(hp : -9223372036854775808≤person∧person≤9223372036854775807)(hlf:cu ls ss person→∀ i,i<ls.length→∀ z∈aC (i:Int) (ls.getD i default) (ss.getD i 0),z.fits)(hlaid:Laid w):RT 7 #[.int .i64 key,.int .i64 person,.slice A n c,.slice B m d] w (iy key person ls ss):=by
 refine QG (EA w.heap.size (KW w) QW) [.int .i64 key,.int .i64 person,.slice A n c,.slice B m d] (Ps _ _ _) Tryz.func7 ?_ ?_ ⟨rfl,Nat.le_refl _⟩
 ·exact fun W hW v z xs h=>h W hW
 have hL:bn (Ac w.heap.size (KW w) QW).K:=dj hlaid
 have hln:ls.length=n:=by have:=hr.1;rw [j5]at this;omega
 have hlm:ss.length=m:=by have:=hr2.1;rw [j3]at this;omega
 have hK1:KW w (.slice A n c) 9 (lQ ls):=fun W hW=>⟨hr.aJ hW,hc⟩
 have hK2:KW w (.slice B m d) 1 (qU ss):=fun W hW=>⟨hr2.aJ hW,hd⟩
 unfold sk
 refine QB (.bool (decide (key<1))) ?_
 refine QD (decide (key<1)) (fun g=>?_) (fun g1=>?_)
 ·have e:iy key person ls ss=.tuple #[aX 0 0 (fun _=>0) 0 0,.int .i64 110]:=if_pos (.inl (of_decide_eq_true g))
  rw [e]
  exact QE (.tuple #[aX 0 0 (fun _=>0) 0 0,.int .i64 110]) rfl
 refine QB (.bool (decide (key≥1073741789))) ?_
 refine QD (decide (key≥1073741789)) (fun g=>?_) (fun g2=>?_)
 ·have e:iy key person ls ss=.tuple #[aX 0 0 (fun _=>0) 0 0,.int .i64 110]:=if_pos (.inr (of_decide_eq_true g))
  rw [e]
  exact QE (.tuple #[aX 0 0 (fun _=>0) 0 0,.int .i64 110]) rfl
 have g1:=of_decide_eq_false g1
 have g2:=of_decide_eq_false g2
 refine QC (.bool (decide (cu ls ss person))) (fun α=>⟨[⟨.agg #[.slice A n c,.slice B m d],0,[]⟩,⟨.int .i64 person,0,[]⟩],QQ,.inl ⟨rfl,_,_,ls,ss,person,rfl,hK1,hK2,ab,ab,hf,rfl⟩,ap rfl⟩) ?_
 refine QB (.bool (!decide (cu ls ss person))) ?_
 refine QD (!decide (cu ls ss person)) (fun g=>?_) (fun g3=>?_)
 ·have g:¬ cu ls ss person:=af g
  have e:iy key person ls ss=.tuple #[aX 0 0 (fun _=>0) 0 0,.int .i64 350]:=by unfold iy;rw [if_neg ab,if_neg g]
  rw [e]
  exact QE (.tuple #[aX 0 0 (fun _=>0) 0 0,.int .i64 350]) rfl
 have g3:cu ls ss person:=af g3
 have hlf:=hlf g3
 have g3':=g3
 obtain⟨q1,q2,q3,_⟩:=g3
 refine QB (.int .i64 (n:Int)) ?_
 refine dM (fun v N=>∃ A1 n1 c1 hs,List.length (α:=dY) hs=ls.length∧v=.slice A1 n1 c1∧N=JD (.slice A1 n1 c1) hs ls ss) al (fun α=>⟨[⟨.agg #[.slice A n c,.slice B m d],0,[]⟩],QP,rfl,_,_,ls,ss,rfl,hK1,hK2,ab,ab,hlf,fun A1 n1 c1 hs h=>⟨A1,n1,c1,hs,h,rfl,rfl⟩⟩) ?_
 rintro _ _-⟨A1,n1,c1,hs,hhs,rfl,rfl⟩
 have hN:∀ y∈JD (.slice A1 n1 c1) hs ls ss,((Ac w.heap.size (KW w) QW).plus (JD (.slice A1 n1 c1) hs ls ss++(Ac w.heap.size (KW w) QW).N)).K y.v y.sz y.cells:=fun y hy=>eR (List.mem_append_left _ hy)
 have hN0:=hN _ (List.mem_cons_self ..)
 have hNp:∀ p∈wi hs ls ss,((Ac w.heap.size (KW w) QW).plus (JD (.slice A1 n1 c1) hs ls ss++(Ac w.heap.size (KW w) QW).N)).K p.1 1 (p.2.flatMap c8):=fun p hm=>hN ⟨p.1,1,p.2.flatMap c8⟩ (List.mem_cons_of_mem _ (List.mem_map.2 ⟨p,hm,rfl⟩))
 have hpn:wi hs ls ss≠[]:=fun h=>by have h2:=wj hs ls ss;rw [h]at h2;simp at h2;omega
 have hpt:∀ p∈wi hs ls ss,p.2≠[]∧p.2.length≤17592186044416:=fun p hm=>by
  obtain⟨j,t,ht,rfl⟩:=wm hm
  have hj:=(List.getElem?_eq_some_iff.1 ht).1
  have h1:=fe (hlf j ab) (by simp [aC])
  exact⟨Iu ls ss j,Nat.le_of_lt (show(pU ls ss j).length<17592186044416 from h1)⟩
 have hpl:=wj hs ls ss
 refine QC (dK (gW (sV ls ss))) (fun α=>⟨[⟨.slice A1 n1 c1,1,(wi hs ls ss).map (·.1)⟩],⟨aa,rfl,cast aa hN0,trivial⟩,.inr (.inl ⟨rfl,jN hL,_,wi hs ls ss,rfl,hNp,hpn,ab,hpt,by rw [Cp hhs]⟩),ap rfl⟩) ?_
 have hsf:=ke (root:=gW (sV ls ss)) (count:=(n:Int)) hp ab
 have hsl:=r5 hsf
 have e:iy key person ls ss=.tuple #[aX person (n:Int) (gW (sV ls ss)) (fP key (bt (aG (bJ person (n:Int) (gW (sV ls ss)))))).1 (fP key (bt (aG (bJ person (n:Int) (gW (sV ls ss)))))).2.1,.int .i64 (fP key (bt (aG (bJ person (n:Int) (gW (sV ls ss)))))).2.2]:=by
  unfold iy
  rw [if_neg ab,if_pos g3',hln]
 rw [e]
 generalize gW (sV ls ss)=root at *
 refine aO (.agg ((aG (bJ person (n:Int) root)).flatMap c8).toArray) (fun α=>⟨[⟨aX person (n:Int) root 0 0,0,[]⟩],QP,.inr (.inr (.inl ⟨rfl,person,n,0,0,root,rfl,hsf,rfl⟩)),ap rfl⟩) (bg _) ?_
 generalize aG (bJ person (n:Int) root)=X at *
 generalize hG:fP key (bt X)=G at *
 refine QC (.tuple #[.agg #[.int .i64 G.1,.int .i64 G.2.1],.int .i64 G.2.2]) (fun α=>⟨[⟨.int .i64 key,0,[]⟩,⟨(α 2).h,1,X.flatMap c8⟩],⟨aa,aa,Eq.trans (da (α 2).h 1 (X.flatMap c8)) aa,trivial⟩,.inr (.inr (.inr ⟨rfl,jN hL,key,_,X,rfl,hsl,by rw [hG]⟩)),ap rfl⟩) ?_
 exact QE (.tuple #[aX person (n:Int) root G.1 G.2.1,.int .i64 G.2.2]) rfl
structure PR where
 (k s:Int)
 x:cf
 p:List Dg
 e:Int
noncomputable def dO(person:Int)(ls:List cf)(ss:List Int)(at_:Int):PR :=
 if cu ls ss person then
  if 0≤at_∧at_<(ls.length:Int)then⟨at_,ss.getD at_.toNat 0,ls.getD at_.toNat default,eD (sV ls ss) at_.toNat,0⟩else⟨0,0,default,[],1⟩
 else⟨0,0,default,[],350⟩
def Qi(K:QV)(f:FuncId)(xs:List SX.Arg)(v:Value):Prop :=
 f=17∧∃ (u1 u2:Value) (ls:List cf) (ss:List Int) (person:Int),xs=[⟨.agg #[u1,u2],0,[]⟩,⟨.int .i64 person,0,[]⟩]∧K u1 9 (lQ ls)∧K u2 1 (qU ss)∧ls.length≤1000000000∧ss.length≤1000000000∧ju ls∧v=.bool (decide (cu ls ss person))
def Qz(K:QV)(f:FuncId)(xs:List SX.Arg)(Q:Value→List SX.Arg→Prop):Prop :=
 OO K f xs Q ∨
 (f=27∧bn K∧∃ (u:Value) (ps:List Pb) (i:Nat),xs=[⟨u,1,ps.map (·.1)⟩,⟨.int .i64 (i:Int),0,[]⟩]∧(∀ p∈ps,K p.1 1 (p.2.flatMap c8))∧i<ps.length∧ps.length≤65536∧(∀ p∈ps,p.2≠[]∧p.2.length≤17592186044416)∧∀ A n c,Q (.tuple #[.slice A n c,.int .i64 0]) [⟨.slice A n c,32,bf (eD (ps.map oC) i)⟩])
def Pd:FuncId→Option SX.Sh:=fun f=>if f=19 then some .one else if f=27 then some (.tp [.one,.one])else none
noncomputable def Ab(nb:Nat)(K A:QV):SX.Cx:={ nsh:=Pd,Rn:=Qz,nb:=nb,P:=Tryz.prog,R:=Qi,shp:=J9,K:=K,A:=A,trm:=true }
theorem Pr(nb:Nat)(K A:QV):(Ab nb K A).Ok:=by
 refine SX.Cx.mo al ?_ fun f sh hs K xs Q W h hrd hK=>?_
 case refine_2 =>
  rcases h with h|⟨rfl,hL,u,ps,i,rfl,hk,hi,hl,hp,hQ⟩
  ·have hf:=h.1
   subst hf
   have hs:some SX.Sh.one=some sh:=hs
   cases hs
   exact Hi h hK
  have hs:some (SX.Sh.tp [.one,.one])=some sh:=hs
  cases hs
  obtain⟨A,n,c,rfl,h1,h2⟩:=bj (hrd ⟨u,1,ps.map (·.1)⟩ ai)
  refine(Ei ps i A n c W h1 h2 hi hl (fun p hm=>hK _ _ _ (hk p hm)) hp (bF hL hK)).mono fun e w' ⟨hb,hdr,he,⟨⟨A2,n2,c2,hh,_⟩,g4,g5⟩⟩=>?_
  subst hh
  refine⟨hb,_,_,he,rfl,hQ A2 n2 c2,fun y hy=>?_⟩
  obtain rfl:y=⟨.slice A2 n2 c2,32,bf (eD (ps.map oC) i)⟩:=af hy
  exact⟨g4,g5.resolve_right fun⟨y,hy,_⟩=>nomatch hy⟩
 intro K f xs v W hR hrd hKf
 obtain⟨rfl,u1,u2,ls,ss,person,rfl,k1,k2,hl,hl2,hf,rfl⟩:=hR
 obtain⟨A,n,c,rfl,h1,h2,h3⟩:=lR (hKf _ _ _ k1)
 obtain⟨B,m,d,rfl,h4,h5⟩:=bj (hKf _ _ _ k2)
 exact(uv ls ss person A n c B m d W h1 h2 h4 h5 ab (by have:=h4.1;rw [j3]at this;omega) hf).mono fun e w' h=>ay rfl h
def sm:SX.Tree :=(.df (.call 17 [.no,.no]) [(.a [(.q 1),(.q 2)]),(.q 0)] .one
(.df .not [(.q 4)] .one
(.br 5 []
(.ret (.t [(.a (QL 11 (.i 0)++[(.k (.slice none 0 0))])),(.i 350)]) [none,none] [])
(.df (.bin .lss 3) [(.q 3),(.i 0)] .one
(.br 6 []
(.ret (.t [(.a (QL 11 (.i 0)++[(.k (.slice none 0 0))])),(.i 1)]) [none,none] [])
(.df (.len false) [(.q 1)] .one
(.df (.bin .geq 3) [(.q 3),(.q 7)] .one
(.br 8 []
(.ret (.t [(.a (QL 11 (.i 0)++[(.k (.slice none 0 0))])),(.i 1)]) [none,none] [])
(.df .bnd [(.q 2),(.q 3)] .one
(.df (.elem 1 0) [(.q 2),(.q 3)] .one
(.df .bnd [(.q 1),(.q 3)] .one
(.df (.elems 9 0 9) [(.q 1),(.q 3)] (.ag 9)
(.df (.callq 19 [.no]) [(.a [(.q 1),(.q 2)])] .one
(.df (.callq 27 [(.ext 1),.no]) [(.q 13),(.q 3)] (.tp [.one,.one])
(.ret (.t [(.a ([(.q 3),(.q 10)]++QJ 12 0 9++[(.x 14 [0])])),(.x 14 [1])]) [none,none] [])))))))))))))))
def zE:List SX.V:=[.x 0 [],.x 1 [],.x 2 [],.x 3 []]
def I4:kp:=⟨fun f=>f != 19 && f != 27,[],12,100⟩
theorem EB(nb:Nat)(K A:QV):QU (Ab nb K A) I4 9 Tryz.f9 zE [.one,.one,.one,.one]=sm:=aa
theorem GS(person:Int)(ls:List cf)(ss:List Int)(at_:Int)(A:Option Addr)(n c:Nat)(B:Option Addr)(m d:Nat)(w:World)(hr:Rd w 9 A n (lQ ls))(hc:n≤c)(hr2:Rd w 1 B m (qU ss))(hd:m≤d)(hl:n≤1000000000)(hm:m≤1000000000)(hf:ju ls)(hlf:cu ls ss person→∀ i,i<ls.length→∀ z∈aC (i:Int) (ls.getD i default) (ss.getD i 0),z.fits)(hlaid:Laid w):Calls Tryz.prog 9 #[.int .i64 person,.slice A n c,.slice B m d,.int .i64 at_] w fun e w'=>Below w.heap.size w w'∧∃ hdr,e=.returned (.tuple #[bR (dO person ls ss at_).k (dO person ls ss at_).s (dO person ls ss at_).x hdr,.int .i64 (dO person ls ss at_).e])∧aH w w' [] hdr 32 (bf (dO person ls ss at_).p):=by
 refine QG (EB w.heap.size (KW w) QW) [.int .i64 person,.slice A n c,.slice B m d,.int .i64 at_] (Pr _ _ _) Tryz.func9 ?_ ?_ ⟨rfl,Nat.le_refl _⟩
 ·exact fun W hW v z xs h=>h W hW
 have hL:bn (Ab w.heap.size (KW w) QW).K:=dj hlaid
 have hA:=SX.rd_some hr
 have hB:=SX.rd_some hr2
 have hln:ls.length=n:=by have:=hr.1;rw [j5]at this;omega
 have hlm:ss.length=m:=by have:=hr2.1;rw [j3]at this;omega
 have hK1:KW w (.slice A n c) 9 (lQ ls):=fun W hW=>⟨hr.aJ hW,hc⟩
 have hK2:KW w (.slice B m d) 1 (qU ss):=fun W hW=>⟨hr2.aJ hW,hd⟩
 unfold sm
 refine QC (.bool (decide (cu ls ss person))) (fun α=>⟨[⟨.agg #[.slice A n c,.slice B m d],0,[]⟩,⟨.int .i64 person,0,[]⟩],QQ,⟨rfl,_,_,ls,ss,person,rfl,hK1,hK2,ab,ab,hf,rfl⟩,ap rfl⟩) ?_
 refine QB (.bool (!decide (cu ls ss person))) ?_
 refine QD (!decide (cu ls ss person)) (fun g=>?_) (fun g3=>?_)
 ·have g:¬ cu ls ss person:=af g
  have e:dO person ls ss at_=⟨0,0,default,[],350⟩:=if_neg g
  rw [e]
  exact aK fun α W _ _ hS=>⟨hS.below,.slice none 0 0,aa,aH.nil⟩
 have g3:cu ls ss person:=af g3
 have hlf:=hlf g3
 obtain⟨q1,q2,q3,_⟩:=id g3
 refine QB (.bool (decide (at_<0))) ?_
 refine QD (decide (at_<0)) (fun g=>?_) (fun g1=>?_)
 ·have g:=of_decide_eq_true g
  have e:dO person ls ss at_=⟨0,0,default,[],1⟩:=by unfold dO;rw [if_pos g3,if_neg ab]
  rw [e]
  exact aK fun α W _ _ hS=>⟨hS.below,.slice none 0 0,aa,aH.nil⟩
 have g1:=of_decide_eq_false g1
 refine QB (.int .i64 (n:Int)) ?_
 refine QB (.bool (decide (at_≥(n:Int)))) ?_
 refine QD (decide (at_≥(n:Int))) (fun g=>?_) (fun g2=>?_)
 ·have g:=of_decide_eq_true g
  have e:dO person ls ss at_=⟨0,0,default,[],1⟩:=by unfold dO;rw [if_pos g3,if_neg ab]
  rw [e]
  exact aK fun α W _ _ hS=>⟨hS.below,.slice none 0 0,aa,aH.nil⟩
 have g2:=of_decide_eq_false g2
 obtain⟨k,rfl⟩:∃ k:Nat,at_=(k:Int):=⟨at_.toNat,ab⟩
 have hk:k<n:=ab
 obtain⟨x,hx⟩:∃ x,ls[k]?=some x:=⟨_,List.getElem?_eq_getElem ab⟩
 obtain⟨s,hs⟩:∃ s,ss[k]?=some s:=⟨_,List.getElem?_eq_getElem ab⟩
 have e:dO person ls ss (k:Int)=⟨(k:Int),s,x,eD (sV ls ss) k,0⟩:=by
  unfold dO
  rw [if_pos g3,if_pos ab,Int.toNat_natCast,List.getD_eq_getElem?_getD,hs,List.getD_eq_getElem?_getD,hx]
  rfl
 rw [e]
 refine QM B m d k hB ab ?_
 refine QC (.int .i64 s) (fun α=>cS (o:=0) (v:=.int .i64 s) (f:=fun k:Int=>[Value.int .i64 k]) (l:=ss) (A:=B) (n:=m) (c:=d) (j:=k) (z:=s) al hB aa aa ab (cast aa hK2) hs aj aa) ?_
 refine QM A n c k hA hk ?_
 refine QN (f:=bE) (l:=ls) (fU x) A n c k x hA hk (cast aa hK1) hx ?_
 refine dM (fun v N=>∃ A1 n1 c1 hs,List.length (α:=dY) hs=ls.length∧v=.slice A1 n1 c1∧N=JD (.slice A1 n1 c1) hs ls ss) al (fun α=>⟨[⟨.agg #[.slice A n c,.slice B m d],0,[]⟩],QP,.inl ⟨rfl,_,_,ls,ss,rfl,hK1,hK2,ab,ab,hlf,fun A1 n1 c1 hs h=>⟨A1,n1,c1,hs,h,rfl,rfl⟩⟩⟩) ?_
 rintro _ _-⟨A1,n1,c1,hs,hhs,rfl,rfl⟩
 have hN:∀ y∈JD (.slice A1 n1 c1) hs ls ss,((Ab w.heap.size (KW w) QW).plus (JD (.slice A1 n1 c1) hs ls ss++(Ab w.heap.size (KW w) QW).N)).K y.v y.sz y.cells:=fun y hy=>eR (List.mem_append_left _ hy)
 have hN0:=hN _ (List.mem_cons_self ..)
 have hNp:∀ p∈wi hs ls ss,((Ab w.heap.size (KW w) QW).plus (JD (.slice A1 n1 c1) hs ls ss++(Ab w.heap.size (KW w) QW).N)).K p.1 1 (p.2.flatMap c8):=fun p hm=>hN ⟨p.1,1,p.2.flatMap c8⟩ (List.mem_cons_of_mem _ (List.mem_map.2 ⟨p,hm,rfl⟩))
 have hpt:∀ p∈wi hs ls ss,p.2≠[]∧p.2.length≤17592186044416:=fun p hm=>by
  obtain⟨j,t,ht,rfl⟩:=wm hm
  have hj:=(List.getElem?_eq_some_iff.1 ht).1
  have h1:=fe (hlf j ab) (by simp [aC])
  exact⟨Iu ls ss j,Nat.le_of_lt (show(pU ls ss j).length<17592186044416 from h1)⟩
 have hpl:=wj hs ls ss
 refine dM (fun v N=>∃ A2 n2 c2,v=.tuple #[.slice A2 n2 c2,.int .i64 0]∧N=[⟨.slice A2 n2 c2,32,bf (eD (sV ls ss) k)⟩]) al (fun α=>⟨[⟨.slice A1 n1 c1,1,(wi hs ls ss).map (·.1)⟩,⟨.int .i64 (k:Int),0,[]⟩],⟨aa,rfl,cast aa hN0,aa,aa,trivial⟩,.inr ⟨rfl,jN hL,_,wi hs ls ss,k,rfl,hNp,ab,ab,hpt,fun A2 n2 c2=>⟨A2,n2,c2,rfl,by rw [Cp hhs]⟩⟩⟩) ?_
 rintro _ _-⟨A2,n2,c2,rfl,rfl⟩
 refine aK fun α W _ hrow hS=>⟨hS.below,.slice A2 n2 c2,aa,?_⟩
 have hN:=hS.fact (p:=SX.NF _) (List.mem_append.2 (.inr (List.mem_cons_of_mem _ (List.mem_cons_self ..)))) ⟨.slice A2 n2 c2,32,bf (eD (sV ls ss) k)⟩ (List.mem_cons_self ..)
 exact⟨⟨A2,n2,c2,rfl,hN.1.2⟩,hN.1,.inl hN.2⟩
end Go.Proofs.YtidekfgkpindbaaGreatDoor
namespace Go.Proofs.YtidekfgkpindbaaGreatDoor
set_option maxRecDepth 100000
open Go Go.RowKit SX
def FB:Nat→S8→List W8→S8×List W8
 | 0,s,l=>(s,l)
 | k+1,s,l=>FB k (bK s (l.take 64)) (l.drop 64)
theorem BJ:∀ (k:Nat)(s:S8)(l:List W8),l.length / 64=k→FB k s l=cG s l
 | 0,s,l,h=>by rw [gX ab];rfl
 | k+1,s,l,h=>by rw [fu ab,FB,BJ k _ _ aw]
def Me(l:List W8):List W8:=DX (Dw (FB (l.length / 64) cP l).1 (FB (l.length / 64) cP l).2 l.length)
theorem Kd(l:List W8):dv l=Me l:=by unfold dv Me;rw [BJ _ _ _ rfl]
theorem fh{l d:List W8}(h:Me l=d):dv l=d:=(Kd l).trans h
def OC(a:Nat):Nat→Nat→Nat
 | 0,_=>1
 | f+1,n=>OC a f (n / 2) ^ 2*a ^ (n % 2) % 2147483579
theorem GY(a:Nat):∀ (f n:Nat),n<2 ^ f→OC a f n=Jac.pm a n
 | 0,n,h=>by
  have e:n=0:=af h
  subst e;rfl
 | f+1,n,h=>by
  have ih:=GY a f (n / 2) (by rw [Nat.pow_succ]at h;omega)
  have e:a ^ n=(a ^ (n / 2)) ^ 2*a ^ (n % 2):=by rw [← Nat.pow_mul,← Nat.pow_add];congr 1;omega
  show OC a f (n / 2) ^ 2*a ^ (n % 2) % 2147483579=a ^ n % 2147483579
  rw [ih,e,Nat.mul_mod,Jac.pm,← Nat.pow_mod,← Nat.mul_mod]
theorem nI{a n b:Int}(h:Jac.fi a=true)(hb:((OC a.toNat 31 (Jac.w7 n).toNat:Nat):Int)=b)(hn:(Jac.w7 n).toNat<2 ^ 31):Jac.aN a n=b:=by
 rw [← hb,GY _ _ _ hn];exact if_pos h
def ye:cf:=⟨1,3,0,5,9,7,3,0,2⟩
def eU:cf:=⟨4,3,0,0,9,7,4,0,0⟩
def vM:cf:=⟨4,3,0,0,10,7,4,0,0⟩
def LN:Nat→Nat→List W8
 | 0,u=>[BitVec.ofNat 8 u]
 | f+1,u=>if u<128 then [BitVec.ofNat 8 u]else(BitVec.ofNat 8 u|||128#8)::LN f (u / 128)
theorem lT:∀ (f u:Nat),u<128 ^ (f+1)→LN f u=bZ u
 | 0,u,h=>(dE (af h)).symm
 | f+1,u,h=>by
  unfold LN
  by_cases h1:u<128
  ·rw [if_pos h1,dE h1]
  rw [if_neg h1,qi h1,lT f _ (by rw [Nat.pow_succ]at h;omega)]
theorem Ng:aG (aC 0 ye 7)=[3#8,12#8,2#8,5#8,108#8,105#8,109#8,105#8,116#8,1#8,0#8,1#8,2#8,1#8,6#8,1#8,0#8,1#8,10#8,1#8,18#8,1#8,14#8,1#8,6#8,1#8,0#8,1#8,4#8,1#8,14#8]:=by
 simp only [aG,aC,List.flatMap_cons,List.flatMap_nil,fb]
 repeat rw [dE aj]
 rfl
theorem Nh:aG (aC 1 eU 9)=[3#8,12#8,2#8,5#8,108#8,105#8,109#8,105#8,116#8,1#8,2#8,1#8,8#8,1#8,6#8,1#8,0#8,1#8,0#8,1#8,18#8,1#8,14#8,1#8,8#8,1#8,0#8,1#8,0#8,1#8,18#8]:=by
 simp only [aG,aC,List.flatMap_cons,List.flatMap_nil,fb]
 repeat rw [dE aj]
 rfl
theorem Ni:aG (aC 1 vM 9)=[3#8,12#8,2#8,5#8,108#8,105#8,109#8,105#8,116#8,1#8,2#8,1#8,8#8,1#8,6#8,1#8,0#8,1#8,0#8,1#8,20#8,1#8,14#8,1#8,8#8,1#8,0#8,1#8,0#8,1#8,18#8]:=by
 simp only [aG,aC,List.flatMap_cons,List.flatMap_nil,fb]
 repeat rw [dE aj]
 rfl
theorem se:dv (sb iX)=[159#8,145#8,22#8,31#8,67#8,67#8,62#8,73#8,166#8,222#8,109#8,182#8,128#8,215#8,159#8,96#8,21#8,159#8,46#8,74#8,201#8,23#8,38#8,33#8,161#8,40#8,70#8,66#8,129#8,88#8,68#8,11#8]:=fh aa
theorem ze:dv (sb pn)=[84#8,94#8,165#8,56#8,70#8,16#8,3#8,239#8,220#8,140#8,129#8,194#8,68#8,83#8,27#8,0#8,63#8,111#8,38#8,207#8,204#8,246#8,192#8,7#8,59#8,50#8,57#8,253#8,237#8,244#8,148#8,70#8]:=fh aa
theorem Nc:cr (bP (bI (aG (aC 0 ye 7))))=[118#8,39#8,108#8,53#8,45#8,245#8,97#8,200#8,206#8,16#8,165#8,244#8,152#8,244#8,118#8,240#8,236#8,235#8,58#8,50#8,38#8,32#8,178#8,121#8,62#8,147#8,75#8,221#8,38#8,175#8,146#8,121#8]:=by
 rw [qH,Ng,bI,se]
 exact fh aa
theorem O1:cr (bP (bI (aG (aC 1 eU 9))))=[193#8,120#8,216#8,181#8,155#8,218#8,118#8,163#8,221#8,252#8,200#8,237#8,58#8,225#8,38#8,21#8,203#8,172#8,210#8,130#8,34#8,224#8,50#8,73#8,166#8,251#8,170#8,68#8,226#8,233#8,33#8,167#8]:=by
 rw [qH,Nh,bI,se]
 exact fh aa
theorem O2:cr (bP (bI (aG (aC 1 vM 9))))=[28#8,18#8,170#8,2#8,41#8,152#8,222#8,52#8,213#8,131#8,95#8,210#8,91#8,16#8,241#8,211#8,123#8,157#8,92#8,2#8,185#8,184#8,81#8,184#8,129#8,57#8,152#8,131#8,11#8,236#8,117#8,84#8]:=by
 rw [qH,Ni,bI,se]
 exact fh aa
def gP:Dg:=bP (gx (bP (bI (aG (aC 0 ye 7)))) (bP (bI (aG (aC 1 eU 9)))))
def Hj:Dg:=bP (gx (bP (bI (aG (aC 0 ye 7)))) (bP (bI (aG (aC 1 vM 9)))))
theorem Nd:cr gP=[197#8,215#8,163#8,242#8,133#8,243#8,185#8,159#8,136#8,6#8,113#8,140#8,139#8,155#8,13#8,200#8,209#8,247#8,46#8,66#8,76#8,130#8,59#8,29#8,91#8,4#8,61#8,183#8,1#8,58#8,76#8,109#8]:=by
 unfold gP
 rw [qH,gx,ze,Nc,O1]
 exact fh aa
theorem O3:cr Hj=[84#8,175#8,1#8,102#8,253#8,45#8,111#8,233#8,250#8,22#8,3#8,67#8,53#8,82#8,170#8,238#8,96#8,17#8,165#8,73#8,233#8,173#8,243#8,83#8,116#8,37#8,123#8,158#8,127#8,118#8,67#8,187#8]:=by
 unfold Hj
 rw [qH,gx,ze,Nc,O2]
 exact fh aa
theorem Nf:cr Hj≠cr gP:=by rw [Nd,O3];decide
def w9:List W8:=[3#8,4#8,2#8,6#8,108#8,105#8,109#8,105#8,116#8,115#8,1#8,6#8,1#8,4#8,2#8,32#8,197#8,215#8,163#8,242#8,133#8,243#8,185#8,159#8,136#8,6#8,113#8,140#8,139#8,155#8,13#8,200#8,209#8,247#8,46#8,66#8,76#8,130#8,59#8,29#8,91#8,4#8,61#8,183#8,1#8,58#8,76#8,109#8]
theorem Ai:aG (bJ 3 2 gP)=w9:=by
 have e1:(bt (cr gP)).size=32:=lF _
 simp only [aG,bJ,List.flatMap_cons,List.flatMap_nil,fb,e1,fw,Nd]
 repeat rw [dE aj]
 rfl
theorem E9:dv (sb kQ)=[120#8,55#8,123#8,82#8,87#8,87#8,180#8,148#8,66#8,127#8,137#8,1#8,79#8,151#8,215#8,153#8,40#8,243#8,147#8,141#8,20#8,235#8,81#8,226#8,15#8,181#8,222#8,201#8,131#8,78#8,179#8,4#8]:=fh aa
theorem zf:dv (sb dI)=[11#8,111#8,57#8,92#8,161#8,74#8,194#8,2#8,55#8,77#8,92#8,255#8,103#8,139#8,113#8,21#8,125#8,11#8,239#8,126#8,0#8,195#8,4#8,94#8,155#8,128#8,170#8,180#8,255#8,184#8,82#8,118#8]:=fh aa
theorem Nv:bZ 8=[8#8]:=(lT 9 8 aj).symm.trans aa
theorem LO:bZ 10=[10#8]:=(lT 9 10 aj).symm.trans aa
theorem GN:bZ 2048=[128#8,16#8]:=(lT 9 2048 aj).symm.trans aa
theorem rn:bZ 1911278952=[232#8,154#8,175#8,143#8,7#8]:=(lT 9 1911278952 aj).symm.trans aa
theorem rs:bZ 3688104104=[168#8,129#8,208#8,222#8,13#8]:=(lT 9 3688104104 aj).symm.trans aa
theorem wN:(bt w9).size=48:=rfl
theorem Gn:dq kQ [.n 5,.s (bt w9)]=1047721554:=by
 have e:aG [.n 5,.s (bt w9)]=[3#8,2#8,1#8,10#8,2#8,48#8,3#8,4#8,2#8,6#8,108#8,105#8,109#8,105#8,116#8,115#8,1#8,6#8,1#8,4#8,2#8,32#8,197#8,215#8,163#8,242#8,133#8,243#8,185#8,159#8,136#8,6#8,113#8,140#8,139#8,155#8,13#8,200#8,209#8,247#8,46#8,66#8,76#8,130#8,59#8,29#8,91#8,4#8,61#8,183#8,1#8,58#8,76#8,109#8]:=by
  simp only [aG,List.flatMap_cons,List.flatMap_nil,fb,wN,fw]
  rw [show bZ ([.n 5,.s (bt w9)]:List Fl).length=[2#8] from dE (by decide:2<128),dE (by decide:48<128)]
  rw [show bZ (eX 5)=[10#8] from LO]
  rfl
 unfold dq kg
 rw [E9,e]
 have h:dv ([120#8,55#8,123#8,82#8,87#8,87#8,180#8,148#8,66#8,127#8,137#8,1#8,79#8,151#8,215#8,153#8,40#8,243#8,147#8,141#8,20#8,235#8,81#8,226#8,15#8,181#8,222#8,201#8,131#8,78#8,179#8,4#8]++[3#8,2#8,1#8,10#8,2#8,48#8,3#8,4#8,2#8,6#8,108#8,105#8,109#8,105#8,116#8,115#8,1#8,6#8,1#8,4#8,2#8,32#8,197#8,215#8,163#8,242#8,133#8,243#8,185#8,159#8,136#8,6#8,113#8,140#8,139#8,155#8,13#8,200#8,209#8,247#8,46#8,66#8,76#8,130#8,59#8,29#8,91#8,4#8,61#8,183#8,1#8,58#8,76#8,109#8])=[225#8,227#8,126#8,116#8,118#8,9#8,177#8,125#8,41#8,179#8,198#8,120#8,192#8,160#8,165#8,112#8,90#8,118#8,238#8,179#8,16#8,74#8,206#8,128#8,66#8,90#8,225#8,180#8,136#8,17#8,192#8,42#8]:=fh aa
 rw [h]
 rfl
theorem B6:dq dI [.n 955639476,.n 1024,.s (bt w9)]=492397864:=by
 have e:aG [.n 955639476,.n 1024,.s (bt w9)]=[3#8,3#8,1#8,232#8,154#8,175#8,143#8,7#8,1#8,128#8,16#8,2#8,48#8,3#8,4#8,2#8,6#8,108#8,105#8,109#8,105#8,116#8,115#8,1#8,6#8,1#8,4#8,2#8,32#8,197#8,215#8,163#8,242#8,133#8,243#8,185#8,159#8,136#8,6#8,113#8,140#8,139#8,155#8,13#8,200#8,209#8,247#8,46#8,66#8,76#8,130#8,59#8,29#8,91#8,4#8,61#8,183#8,1#8,58#8,76#8,109#8]:=by
  simp only [aG,List.flatMap_cons,List.flatMap_nil,fb,wN,fw]
  rw [show bZ ([.n 955639476,.n 1024,.s (bt w9)]:List Fl).length=[3#8] from dE (by decide:3<128),dE (by decide:48<128)]
  rw [show bZ (eX 955639476)=[232#8,154#8,175#8,143#8,7#8] from rn]
  rw [show bZ (eX 1024)=[128#8,16#8] from GN]
  rfl
 unfold dq kg
 rw [zf,e]
 have h:dv ([11#8,111#8,57#8,92#8,161#8,74#8,194#8,2#8,55#8,77#8,92#8,255#8,103#8,139#8,113#8,21#8,125#8,11#8,239#8,126#8,0#8,195#8,4#8,94#8,155#8,128#8,170#8,180#8,255#8,184#8,82#8,118#8]++[3#8,3#8,1#8,232#8,154#8,175#8,143#8,7#8,1#8,128#8,16#8,2#8,48#8,3#8,4#8,2#8,6#8,108#8,105#8,109#8,105#8,116#8,115#8,1#8,6#8,1#8,4#8,2#8,32#8,197#8,215#8,163#8,242#8,133#8,243#8,185#8,159#8,136#8,6#8,113#8,140#8,139#8,155#8,13#8,200#8,209#8,247#8,46#8,66#8,76#8,130#8,59#8,29#8,91#8,4#8,61#8,183#8,1#8,58#8,76#8,109#8])=[243#8,252#8,52#8,170#8,239#8,108#8,117#8,13#8,181#8,33#8,168#8,133#8,66#8,245#8,156#8,184#8,186#8,120#8,142#8,97#8,79#8,228#8,23#8,107#8,123#8,105#8,229#8,28#8,235#8,150#8,97#8,236#8]:=fh aa
 rw [h]
 rfl
theorem Jv:dq dI [.n 1844052052,.n 4,.s (bt w9)]=46574135:=by
 have e:aG [.n 1844052052,.n 4,.s (bt w9)]=[3#8,3#8,1#8,168#8,129#8,208#8,222#8,13#8,1#8,8#8,2#8,48#8,3#8,4#8,2#8,6#8,108#8,105#8,109#8,105#8,116#8,115#8,1#8,6#8,1#8,4#8,2#8,32#8,197#8,215#8,163#8,242#8,133#8,243#8,185#8,159#8,136#8,6#8,113#8,140#8,139#8,155#8,13#8,200#8,209#8,247#8,46#8,66#8,76#8,130#8,59#8,29#8,91#8,4#8,61#8,183#8,1#8,58#8,76#8,109#8]:=by
  simp only [aG,List.flatMap_cons,List.flatMap_nil,fb,wN,fw]
  rw [show bZ ([.n 1844052052,.n 4,.s (bt w9)]:List Fl).length=[3#8] from dE (by decide:3<128),dE (by decide:48<128)]
  rw [show bZ (eX 1844052052)=[168#8,129#8,208#8,222#8,13#8] from rs]
  rw [show bZ (eX 4)=[8#8] from Nv]
  rfl
 unfold dq kg
 rw [zf,e]
 have h:dv ([11#8,111#8,57#8,92#8,161#8,74#8,194#8,2#8,55#8,77#8,92#8,255#8,103#8,139#8,113#8,21#8,125#8,11#8,239#8,126#8,0#8,195#8,4#8,94#8,155#8,128#8,170#8,180#8,255#8,184#8,82#8,118#8]++[3#8,3#8,1#8,168#8,129#8,208#8,222#8,13#8,1#8,8#8,2#8,48#8,3#8,4#8,2#8,6#8,108#8,105#8,109#8,105#8,116#8,115#8,1#8,6#8,1#8,4#8,2#8,32#8,197#8,215#8,163#8,242#8,133#8,243#8,185#8,159#8,136#8,6#8,113#8,140#8,139#8,155#8,13#8,200#8,209#8,247#8,46#8,66#8,76#8,130#8,59#8,29#8,91#8,4#8,61#8,183#8,1#8,58#8,76#8,109#8])=[116#8,21#8,176#8,80#8,6#8,234#8,27#8,189#8,237#8,191#8,67#8,10#8,53#8,131#8,59#8,252#8,237#8,225#8,171#8,125#8,212#8,138#8,125#8,236#8,41#8,72#8,178#8,100#8,55#8,247#8,89#8,173#8]:=fh aa
 rw [h]
 rfl
theorem NG:Jac.aN 4 1047721554=955639476:=nI Jac.fQ aa aj
theorem KE:Jac.aN 4 5=1024:=nI Jac.fQ aa aj
theorem Co:Jac.aN 4 288485507=1909044052:=nI Jac.fQ aa aj
theorem KF:Jac.aN 4 (-492397864)=599425497:=nI Jac.fQ aa aj
theorem G2(h:Jac.fi 1024=true):Jac.aN 1024 (-492397864)=1484222247:=nI h aa aj
theorem Mb:fP 5 (bt w9)=(492397864,288485507,0):=by
 have h1:bU 5 (bt w9)=1047721554:=by unfold bU;rw [Gn];rfl
 have h2:gl 955639476 1024 (bt w9)=492397864:=B6
 unfold fP
 rw [if_neg aj,h1,NG,KE,h2]
 rfl
theorem Ot:gn 1024 (bt w9) 492397864 288485507=true:=by
 have hv:Jac.fi 1024=true:=by rw [← KE];exact Jac.lq Jac.fQ
 have v1:Jac.fi 1909044052=true:=by rw [← Co];exact Jac.lq Jac.fQ
 have v2:Jac.fi 1484222247=true:=by rw [← G2 hv];exact Jac.lq hv
 have h2:gl 955639476 1024 (bt w9)=492397864:=B6
 have h3:Jac.er 1909044052 1484222247=955639476:=by unfold Jac.er;rw [if_pos ⟨v1,v2⟩];rfl
 unfold gn
 rw [if_neg (by rintro(q|q|q|q|q)<;>first|omega|(rw [hv]at q;cases q)),Co,G2 hv,h3,h2]
 rfl
theorem Oq:gn 4 (bt w9) 492397864 288485507=false:=by
 have v1:Jac.fi 1909044052=true:=by rw [← Co];exact Jac.lq Jac.fQ
 have v2:Jac.fi 599425497=true:=by rw [← KF];exact Jac.lq Jac.fQ
 have h2:gl 1844052052 4 (bt w9)=46574135:=Jv
 have h3:Jac.er 1909044052 599425497=1844052052:=by unfold Jac.er;rw [if_pos ⟨v1,v2⟩];rfl
 unfold gn
 rw [if_neg (by rintro(q|q|q|q|q)<;>first|omega|(rw [Jac.fQ]at q;cases q)),Co,KF,h3,h2]
 rfl
def bQ(k:Int):Prop:=-9223372036854775808≤k∧k≤9223372036854775807
def cf.fit(x:cf):Prop:=bQ x.no∧bQ x.person∧bQ x.of_∧bQ x.from_∧bQ x.to_∧bQ x.known∧bQ x.kind∧bQ x.limb∧bQ x.n
theorem gb{k s:Int}{x:cf}(h1:bQ k)(h:x.fit)(h2:bQ s):∀ z∈aC k x s,z.fits:=by
 obtain⟨a1,a2,a3,a4,a5,a6,a7,a8,a9⟩:=h
 intro z hz
 simp only [aC,List.mem_cons,List.not_mem_nil,or_false]at hz
 rcases hz with rfl|rfl|rfl|rfl|rfl|rfl|rfl|rfl|rfl|rfl|rfl|rfl
 ·exact(by decide:fL.size≤1048576)
 all_goals assumption
theorem De{k l n:Int}(h:cg k l n):bQ k∧bQ l∧bQ n:=by
 unfold cg at h;unfold bQ;omega
theorem F4{x:cf}(h:ow x)(h2:bQ x.of_):x.fit:=by
 obtain⟨a1,a2,a3,a4,a5,a6⟩:=bN.1 h
 have hc:bQ x.kind∧bQ x.limb∧bQ x.n:=by
  rcases a6 with a6|a6
  ·exact De a6
  unfold bQ;omega
 obtain⟨c1,c2,c3⟩:=hc
 unfold cf.fit
 refine⟨?_,?_,h2,?_,?_,?_,c1,c2,c3⟩<;>unfold bQ<;>omega
theorem Jc{l:List cf}(h:eT l=0):Mo l:=by
 unfold eT at h
 split at h
 ·cases h
 split at h
 ·assumption
 cases h
theorem AZ{ls:List cf}{ss:List Int}{person:Int}(h:cu ls ss person){i:Nat}{x:cf}(hx:ls[i]?=some x):ow x:=((Jc h.2.2.2.1.1) i x hx).1
theorem rQ{ls:List cf}{ss:List Int}{person:Int}(hf:ju ls)(h:cu ls ss person):∀ i,i<ls.length→∀ z∈aC (i:Int) (ls.getD i default) (ss.getD i 0),z.fits:=fun i hi=>by
 obtain⟨x,hx⟩:∃ x,ls[i]?=some x:=⟨_,List.getElem?_eq_getElem hi⟩
 obtain⟨s,hs⟩:∃ s,ss[i]?=some s:=⟨_,List.getElem?_eq_getElem (by rw [h.2.2.1];exact hi)⟩
 have hs2:=h.2.2.2.2 s (List.mem_of_getElem? hs)
 have h64:=h.2.1
 have e1:ls.getD i default=x:=by rw [List.getD_eq_getElem?_getD,hx];rfl
 have e2:ss.getD i 0=s:=by rw [List.getD_eq_getElem?_getD,hs];rfl
 rw [e1,e2]
 refine gb ?_ (F4 (AZ h hx) (hf x (List.mem_of_getElem? hx))) ?_
 ·unfold bQ;omega
 obtain⟨b1,b2⟩:=hs2
 unfold bQ;omega
def PT(K:QV)(f:FuncId)(xs:List SX.Arg)(v:Value):Prop :=
 (f=7∧bn K∧∃ (key person:Int) (u1 u2:Value) (ls:List cf) (ss:List Int),xs=[⟨.int .i64 key,0,[]⟩,⟨.int .i64 person,0,[]⟩,⟨u1,9,lQ ls⟩,⟨u2,1,qU ss⟩]∧ls.length≤1000000000∧ss.length≤1000000000∧ju ls∧bQ person∧v=iy key person ls ss) ∨
 (f=30∧bn K∧∃ (person count E S:Int) (root:Dg) (k s:Int) (x:cf) (p:List Dg) (hdr:Value),xs=[⟨aX person count root E S,0,[]⟩,⟨bR k s x hdr,0,[]⟩]∧K hdr 32 (bf p)∧(∀ z∈aC k x s,z.fits)∧v=.bool (decide (bq person count root k s x p))) ∨
 (f=14∧bn K∧∃ (key person count E S:Int) (root:Dg) (k s:Int) (x:cf) (p:List Dg) (hdr:Value),xs=[⟨.int .i64 key,0,[]⟩,⟨aX person count root E S,0,[]⟩,⟨bR k s x hdr,0,[]⟩]∧K hdr 32 (bf p)∧(∀ z∈aC k x s,z.fits)∧(∀ z∈bJ person count root,z.fits)∧v=.bool (decide (db key person count E S root k s x p)))
def Mv(K:QV)(f:FuncId)(xs:List SX.Arg)(Q:Value→List SX.Arg→Prop):Prop :=
 f=9∧bn K∧∃ (person at_:Int) (u1 u2:Value) (ls:List cf) (ss:List Int),xs=[⟨.int .i64 person,0,[]⟩,⟨u1,9,lQ ls⟩,⟨u2,1,qU ss⟩,⟨.int .i64 at_,0,[]⟩]∧ls.length≤1000000000∧ss.length≤1000000000∧ju ls∧∀ A c,Q (.tuple #[bR (dO person ls ss at_).k (dO person ls ss at_).s (dO person ls ss at_).x (.slice A (dO person ls ss at_).p.length c),.int .i64 (dO person ls ss at_).e]) [⟨.slice A (dO person ls ss at_).p.length c,32,bf (dO person ls ss at_).p⟩]
theorem JW{K:QV}{f:FuncId}{xs:List SX.Arg}{Q:Value→List SX.Arg→Prop}{W:World}(h:Mv K f xs Q)(hrd:∀ x∈xs,x.rd W)(hK:∀ s sz cells,K s sz cells→SX.Arg.rd W ⟨s,sz,cells⟩):Calls Tryz.prog f (xs.map SX.Arg.v).toArray W fun e W'=>Below W.heap.size W W'∧∃ v N,e=.returned v∧(SX.Sh.tp [.ag 12,.one]).fit v=true∧Q v N∧∀ y∈N,y.rd W'∧fV W.heap.size y.v:=by
 obtain⟨rfl,hL,person,at_,u1,u2,ls,ss,rfl,hl,hl2,hf,hQ⟩:=h
 obtain⟨A,n,c,rfl,h1,h2,h3⟩:=lR (hrd ⟨u1,9,lQ ls⟩ ai)
 obtain⟨B,m,d,rfl,h4,h5⟩:=bj (hrd ⟨u2,1,qU ss⟩ ai)
 have hm:ss.length=m:=by have:=h4.1;rw [j3]at this;omega
 refine(GS person ls ss at_ A n c B m d W h1 h2 h4 h5 ab ab hf (rQ hf) (bF hL hK)).mono fun e w' ⟨hb,hdr,he,⟨⟨A2,n2,c2,hh,hc2⟩,g4,g5⟩⟩=>?_
 subst hh
 have hr4:Rd w' 32 A2 n2 (bf (dO person ls ss at_).p):=g4.1
 have e2:n2=(dO person ls ss at_).p.length:=by have:=hr4.1;rw [gr]at this;omega
 subst e2
 refine⟨hb,_,_,he,?_,hQ A2 c2,fun y hy=>?_⟩
 ·generalize dO person ls ss at_=o
  kernel_rfl
 obtain rfl:y=_:=List.mem_singleton.1 hy
 exact⟨⟨hr4,hc2⟩,g5.resolve_right fun⟨y,hy,_⟩=>nomatch hy⟩
def N8:FuncId→Option SX.Sh:=fun f=>if f∈[14,30]then some .one else if f=7 then some (.tp [.ag 36,.one])else none
noncomputable def jV(nb:Nat)(K A:QV):SX.Cx:={ nsh:=fun f=>if f=9 then some (.tp [.ag 12,.one])else none,Rn:=Mv,nb:=nb,P:=Tryz.prog,R:=PT,shp:=N8,K:=K,A:=A,trm:=true,cut:=[(14,6,true),(16,7,true),(17,8,true),(18,9,false),(19,10,false)] }
theorem Ev{K:QV}{f:FuncId}{xs:List SX.Arg}{v:Value}{W:World}(hR:PT K f xs v)(hrd:∀ x∈xs,x.rd W)(hKf:∀ s sz cells,K s sz cells→SX.Arg.rd W ⟨s,sz,cells⟩):Calls Tryz.prog f (xs.map SX.Arg.v).toArray W fun e w'=>e=.returned v∧Below W.heap.size W w':=by
 rcases hR with ⟨rfl,hL,key,person,u1,u2,ls,ss,rfl,hl,hl2,hf,hp,rfl⟩|⟨rfl,hL,person,count,E,S,root,k,s,x,p,hdr,rfl,hk,hf,rfl⟩|⟨rfl,hL,key,person,count,E,S,root,k,s,x,p,hdr,rfl,hk,hf,hf2,rfl⟩
 ·obtain⟨A,n,c,rfl,h1,h2,h3⟩:=lR (hrd ⟨u1,9,lQ ls⟩ ai)
  obtain⟨B,m,d,rfl,h4,h5⟩:=bj (hrd ⟨u2,1,qU ss⟩ ai)
  have hm:ss.length=m:=by have:=h4.1;rw [j3]at this;omega
  exact GD key person ls ss A n c B m d W h1 h2 h4 h5 ab ab hf hp (rQ hf) (bF hL hKf)
 ·obtain⟨B,m,c,rfl,h3,h4⟩:=bj (hKf _ _ _ hk)
  exact qO person count E S root k s x p B m c W h3 h4 hf (bF hL hKf)
 obtain⟨B,m,c,rfl,h3,h4⟩:=bj (hKf _ _ _ hk)
 exact tG key person count E S root k s x p B m c W h3 h4 hf hf2 (bF hL hKf)
theorem Pv(nb:Nat)(K A:QV):(jV nb K A).Ok:=by
 refine SX.Cx.mo al ?_ fun f sh hs K xs Q W h hrd hK=>?_
 case refine_2 =>
  have hf:=h.1
  subst hf
  have hs:some (SX.Sh.tp [.ag 12,.one])=some sh:=hs
  cases hs
  exact JW h hrd hK
 intro K f xs v W hR hrd hKf
 have h:=Ev hR hrd hKf
 rcases hR with ⟨rfl,_⟩|⟨rfl,_⟩|⟨rfl,_⟩<;>exact h.mono fun e w' h=>ay rfl h
def pi:List cf:=[ye,eU]
def r9:List Int:=[7,9]
theorem PK:Mo pi:=fun i z hz=>by
 match i,hz with
 | 0,hz=>cases hz;exact⟨aj,aj,aj⟩
 | 1,hz=>cases hz;exact⟨aj,aj,aj⟩
 | i+2,hz=>cases hz
theorem MK:eT pi=0:=by unfold eT;rw [if_neg aj,if_pos PK]
theorem wy:cu pi r9 3:=⟨aj,aj,rfl,⟨MK,aj⟩,fun s hs=>by
 have:s=7∨s=9:=by simpa [r9]using hs
 rcases this with rfl|rfl<;>exact⟨aj,aj⟩⟩
theorem JV:¬ cu pi r9 2:=fun h=>absurd (h.2.2.2.1.2 ye aj) aj
theorem JU:¬ cu [] [] 3:=fun h=>absurd h.1 aj
theorem B0:ju pi:=fun z hz=>by
 have:z=ye∨z=eU:=by simpa [pi]using hz
 rcases this with rfl|rfl<;>exact⟨aj,aj⟩
def ou:Dg:=bP (bI (aG (aC 0 ye 7)))
def PY:Dg:=bP (bI (aG (aC 1 eU 9)))
theorem Ky:sV pi r9=[ou,PY]:=rfl
theorem Ol:gW (sV pi r9)=gP:=by
 rw [Ky,← CF aj,sL,zh aj]
 rfl
theorem JS:eD (sV pi r9) 1=[ou]:=by
 rw [Ky,oJ aj,sL,mO aj]
 rfl
theorem LF:iy 5 3 pi r9=.tuple #[aX 3 2 gP 492397864 288485507,.int .i64 0]:=by
 unfold iy
 rw [if_neg aj,if_pos wy]
 show Value.tuple #[aX 3 2 (gW (sV pi r9)) (fP 5 (bt (aG (bJ 3 2 (gW (sV pi r9)))))).1 (fP 5 (bt (aG (bJ 3 2 (gW (sV pi r9)))))).2.1,.int .i64 (fP 5 (bt (aG (bJ 3 2 (gW (sV pi r9)))))).2.2]=_
 rw [Ol,Ai,Mb]
theorem GF:iy 0 3 [] []=.tuple #[aX 0 0 (fun _=>0) 0 0,.int .i64 110]:=if_pos (.inl aj)
theorem DO:iy 1 3 [] []=.tuple #[aX 0 0 (fun _=>0) 0 0,.int .i64 350]:=by
 unfold iy;rw [if_neg aj,if_neg JU]
theorem Ax:iy 5 2 pi r9=.tuple #[aX 0 0 (fun _=>0) 0 0,.int .i64 350]:=by
 unfold iy;rw [if_neg aj,if_neg JV]
theorem GR:dO 3 pi r9 1=⟨1,9,eU,[ou],0⟩:=by
 unfold dO
 rw [if_pos wy,if_pos aj]
 show(⟨1,9,eU,eD (sV pi r9) 1,0⟩:PR)=_
 rw [JS]
theorem yu:dO 3 pi r9 2=⟨0,0,default,[],1⟩:=by
 unfold dO
 rw [if_pos wy,if_neg aj]
theorem L9:gG 9:=⟨aj,aj⟩
theorem BT(d:Dg):bc 2 1 d [ou]=some (bP (gx ou d)):=by
 rw [mD aj aj aj,lH aj,if_pos rfl]
theorem F9:bq 3 2 gP 1 9 eU [ou]:=⟨aj,aj,aj,aj,L9,rfl,gP,BT PY,rfl⟩
theorem Lx:¬ bq 3 2 gP 1 9 vM [ou]:=fun h=>by
 obtain⟨d,h1,h2⟩:=h.2.2.2.2.2.2
 have h1:bc 2 1 (bP (bI (aG (aC 1 vM 9)))) [ou]=some d:=h1
 rw [BT]at h1
 cases h1
 exact Nf h2
theorem Ja:db 1024 3 2 492397864 288485507 gP 1 9 eU [ou]:=⟨F9,by rw [Ai];exact Ot⟩
theorem Jb:¬ db 1024 3 2 492397864 288485507 gP 1 9 vM [ou]:=fun h=>Lx h.1
theorem I9:¬ db 4 3 2 492397864 288485507 gP 1 9 eU [ou]:=fun h=>by
 have h2:=h.2
 rw [Ai,Oq]at h2
 cases h2
theorem I8:¬ db 4 0 0 0 0 (fun _=>0) 0 0 default []:=fun h=>absurd h.1.1 aj
end Go.Proofs.YtidekfgkpindbaaGreatDoor
namespace Go.Proofs.YtidekfgkpindbaaGreatDoor
set_option maxRecDepth 20000
open Go Go.RowKit SX Go.ChangeShapes Go.WideShapes Go.ChangeAt
theorem max_eq:maxLen=9223372036854775807:=by unfold maxLen;rfl
theorem dG(cs:List Value){o k o':Nat}(h:o+k=o'):cs.drop o=(cs.drop o).take k++cs.drop o':=by
 subst h;rw [← List.drop_drop];exact(List.take_append_drop ..).symm
section
variable {H:Type}{enc:TypeId×Value→H}{w:World}{base:Nat}{sp:Nat→Bool}{held:Bool}{r:Reach}{b0:Nat}{v:Value}{d:DataW H}{ps:List MemPlace}
theorem Kg{cs:List Value}{off:Nat}{v:Value}(h:(cs.drop off).take 1=[v]):cs[off]?=some v:=by
 have:((cs.drop off).take 1)[0]?=some v:=by rw [h];rfl
 simpa [List.getElem?_take,List.getElem?_drop]using this
theorem F5{β:Type}{f:β→List Value}{Q:β→Prop}{sz:Nat}(a:Addr):∀ (len:Nat),(∀ i,i<len→∃ c:β,Q c∧w.cells? base (a.add (i*sz)) sz=some (f c)) →
 ∃ l:List β,l.length=len∧(∀ c∈l,Q c)∧∀ i c,l[i]?=some c→w.cells? base (a.add (i*sz)) sz=some (f c)
 | 0,_=>⟨[],rfl,(fun _ h=>nomatch h),ai⟩
 | len+1,h=>by
  obtain⟨l,hl,hq,hx⟩:=F5 a len (fun i hi=>h i ab)
  obtain⟨c,hqc,hc⟩:=h len ab
  refine⟨l++[c],by simp [hl],fun c' hc'=>?_,fun i c' hc'=>?_⟩
  ·rcases List.mem_append.1 hc' with h1|h1
   ·exact hq c' h1
   obtain rfl:c'=c:=af h1
   exact hqc
  rw [List.getElem?_append]at hc'
  split at hc'
  ·exact hx i c' hc'
  have:i-l.length=0:=by
   rcases Nat.eq_zero_or_pos (i-l.length)with h0|h0
   ·exact h0
   rw [List.getElem?_eq_none aw]at hc';cases hc'
  rw [this]at hc'
  obtain rfl:c=c':=af hc'
  obtain rfl:i=len:=ab
  exact hc
theorem Im{β:Type}{f:β→List Value}{Q:β→Prop}{sz:Nat}{t e:TypeId}{n:Nat}{cs:List Value}{y:DataW H×List MemPlace}(hu:Tryz.prog.underlying t=some (.slice e))(hC:Tryz.prog.cellsOf e=sz)(h0:0<sz)(hlen:∀ c,(f c).length=sz)
 (hel:∀ (n:Nat) (cs:List Value) (y:DataW H×List MemPlace),DataW.trod enc Tryz.prog w base sp held n e cs=some y→∃ c,Q c∧cs=f c) (hf:DataW.trod enc Tryz.prog w base sp held n t cs=some y) :
 ∃ (A:Option Addr) (k cap:Nat) (l:List β),cs=[.slice A k cap]∧Rd w sz A k (l.flatMap f)∧k≤cap∧cap≤maxLen∧∀ c∈l,Q c:=by
 rcases DataW.trod_slice hu hf with ⟨he,_⟩|⟨a,len,cap',elems,rest,m,_,he,_,_,hlc,hcm,hel',hcell,_,_⟩
 ·exact⟨none,0,0,[],he,⟨ai,fun h=>absurd h ab⟩,Nat.le_refl _,ab,fun _ h=>nomatch h⟩
 rw [hC]at hcell
 obtain⟨l,hl,hq,hx⟩:=F5 (w:=w) (base:=base) (f:=f) (Q:=Q) (sz:=sz) a len fun i hi=>by
  have h1:=hcell i hi
  rw [List.getElem?_eq_getElem ab]at h1
  cases hq:w.cells? base (a.add (i*sz)) sz with
  | none=>rw [hq]at h1;simp at h1
  | some cs =>
   rw [hq]at h1
   obtain⟨c,hqc,rfl⟩:=hel _ _ _ (af h1)
   exact⟨c,hqc,rfl⟩
 have hll:(l.flatMap f).length=len*sz:=by rw [SX.aL hlen,hl]
 refine⟨some a,len,cap',l,he,⟨hll,fun hn=>⟨a,rfl,?_,fun j u hu=>?_⟩⟩,ab,ab,hq⟩
 ·obtain⟨c,hc⟩:∃ c,l[0]?=some c:=⟨_,List.getElem?_eq_getElem ab⟩
  have:=World.cells?_block (hx 0 c hc) ab
  rwa [fE]at this
 have hj:j<len*sz:=by
  have:=(List.getElem?_eq_some_iff.1 hu).1
  rwa [hll]at this
 have hd:j / sz<len:=Nat.div_lt_of_lt_mul (by rw [Nat.mul_comm];exact hj)
 have hm:j % sz<sz:=Nat.mod_lt _ h0
 obtain⟨c,hc⟩:∃ c,l[j / sz]?=some c:=⟨_,List.getElem?_eq_getElem ab⟩
 have hw:=hx _ c hc
 have hjj:j / sz*sz+j % sz=j:=by rw [Nat.mul_comm];exact Nat.div_add_mod j sz
 have h4:(f c)[j % sz]?=some u:=by
  rw [← hjj,← List.getElem?_drop,SX.hJ hlen hc,List.getElem?_append_left (by rw [hlen];exact hm)]at hu
  exact hu
 obtain⟨_,_,h5⟩:=World.cells?_some hw
 have h6:=(h5 (j % sz) hm).trans h4
 have h7:(a.add (j / sz*sz)).add (j % sz)=a.add j:=by rw [Addr.add_add,hjj]
 rw [h7]at h6
 exact h6
theorem Kh{n:Nat}{cs:List Value}{y:DataW H×List MemPlace}(hf:DataW.trod enc Tryz.prog w base sp held n 5 cs=some y):∃ b:W8,True∧cs=c8 b:=by
 obtain⟨n,e,_,hw⟩:=DataW.trod_int Tryz.underlying5 hf
 have hb:=bounds_u8 hw
 refine⟨BitVec.ofNat 8 n.toNat,trivial,e.trans ?_⟩
 show [Value.int .u8 n]=[Value.int .u8 ((BitVec.ofNat 8 n.toNat).toNat:Int)]
 rw [BitVec.toNat_ofNat]
 congr 2
 omega
theorem tL{n:Nat}{cs:List Value}{y:DataW H×List MemPlace}(hf:DataW.trod enc Tryz.prog w base sp held n 27 cs=some y):∃ f:Nat→W8,cs=(List.range 32).map fun j=>w8 (f j):=by
 obtain⟨xs,m,_,_,hlen,hl,hx⟩:=DataW.trod_array Tryz.underlying27 hf
 have hC:Tryz.prog.cellsOf 27=32:=aa
 have hE:Tryz.prog.cellsOf 5=1:=aa
 rw [hC]at hlen
 have hb:∀ j,j<32→∃ b:W8,cs[j]?=some (w8 b):=fun j hj=>by
  have g:=(hx j hj).trans (List.getElem?_eq_getElem ab)
  rw [hE,Nat.mul_one]at g
  obtain⟨b,_,e⟩:=Kh g
  exact⟨b,Kg e⟩
 refine⟨fun j=>if h:j<32 then(hb j h).choose else 0,?_⟩
 apply List.ext_getElem?
 intro j
 by_cases hj:j<32
 ·rw [(hb j hj).choose_spec,List.getElem?_map,List.getElem?_range hj]
  simp only [Option.map_some,dif_pos hj]
 rw [List.getElem?_eq_none ab,List.getElem?_eq_none (by rw [List.length_map,List.length_range];omega)]
theorem LA{a:Int}(h:(Lit.int .i64 a).wf=true) : -9223372036854775808≤a∧a≤9223372036854775807:=by
 have h:(decide (IntKind.i64.min≤a) && decide (a≤IntKind.i64.max))=true:=h
 rw [Bool.and_eq_true,decide_eq_true_eq,decide_eq_true_eq]at h
 exact⟨h.1,h.2⟩
theorem dh{n:Nat}{cs:List Value}{y:DataW H×List MemPlace}(hf:DataW.trod enc Tryz.prog w base sp held n 3 cs=some y):∃ k,bQ k∧cs=[.int .i64 k]:=by
 obtain⟨k,e,_,hw⟩:=DataW.trod_int Tryz.underlying3 hf
 exact⟨k,LA hw,e⟩
theorem Df{n:Nat}{cs:List Value}{y:DataW H×List MemPlace}(hf:DataW.trod enc Tryz.prog w base sp held n 36 cs=some y):∃ k l n:Int,(bQ k∧bQ l∧bQ n)∧cs=[.int .i64 k,.int .i64 l,.int .i64 n]:=by
 obtain⟨xs,n,_,_,hlen,hl,hx⟩:=DataW.trod_struct Tryz.underlying36 hf
 have hC:Tryz.prog.cellsOf 36=3:=aa
 rw [hC]at hlen
 have hl':xs.length=3:=hl
 have g0:DataW.trod enc Tryz.prog w base sp held n 3 ((cs.drop 0).take 1)=some (xs[0]'ab):=(hx 0 _ rfl).trans (List.getElem?_eq_getElem _)
 obtain⟨v0,h0,e0⟩:=dh g0
 have g1:DataW.trod enc Tryz.prog w base sp held n 3 ((cs.drop 1).take 1)=some (xs[1]'ab):=(hx 1 _ rfl).trans (List.getElem?_eq_getElem _)
 obtain⟨v1,h1,e1⟩:=dh g1
 have g2:DataW.trod enc Tryz.prog w base sp held n 3 ((cs.drop 2).take 1)=some (xs[2]'ab):=(hx 2 _ rfl).trans (List.getElem?_eq_getElem _)
 obtain⟨v2,h2,e2⟩:=dh g2
 refine⟨v0,v1,v2,⟨h0,h1,h2⟩,?_⟩
 show cs=_
 rw [show cs=cs.drop 0 from rfl,dG cs (show 0+1=1 from rfl),e0,dG cs (show 1+1=2 from rfl),e1,dG cs (show 2+1=3 from rfl),e2,List.drop_eq_nil_of_le (by omega:cs.length≤3)]
 rfl
theorem DM{n:Nat}{cs:List Value}{y:DataW H×List MemPlace}(hf:DataW.trod enc Tryz.prog w base sp held n 38 cs=some y):∃ x:cf,x.fit∧cs=bE x:=by
 obtain⟨xs,n,_,_,hlen,hl,hx⟩:=DataW.trod_struct Tryz.underlying38 hf
 have hC:Tryz.prog.cellsOf 38=9:=aa
 rw [hC]at hlen
 have hl':xs.length=7:=hl
 have g0:DataW.trod enc Tryz.prog w base sp held n 3 ((cs.drop 0).take 1)=some (xs[0]'ab):=(hx 0 _ rfl).trans (List.getElem?_eq_getElem _)
 obtain⟨v0,h0,e0⟩:=dh g0
 have g1:DataW.trod enc Tryz.prog w base sp held n 3 ((cs.drop 1).take 1)=some (xs[1]'ab):=(hx 1 _ rfl).trans (List.getElem?_eq_getElem _)
 obtain⟨v1,h1,e1⟩:=dh g1
 have g2:DataW.trod enc Tryz.prog w base sp held n 3 ((cs.drop 2).take 1)=some (xs[2]'ab):=(hx 2 _ rfl).trans (List.getElem?_eq_getElem _)
 obtain⟨v2,h2,e2⟩:=dh g2
 have g3:DataW.trod enc Tryz.prog w base sp held n 3 ((cs.drop 3).take 1)=some (xs[3]'ab):=(hx 3 _ rfl).trans (List.getElem?_eq_getElem _)
 obtain⟨v3,h3,e3⟩:=dh g3
 have g4:DataW.trod enc Tryz.prog w base sp held n 3 ((cs.drop 4).take 1)=some (xs[4]'ab):=(hx 4 _ rfl).trans (List.getElem?_eq_getElem _)
 obtain⟨v4,h4,e4⟩:=dh g4
 have g5:DataW.trod enc Tryz.prog w base sp held n 3 ((cs.drop 5).take 1)=some (xs[5]'ab):=(hx 5 _ rfl).trans (List.getElem?_eq_getElem _)
 obtain⟨v5,h5,e5⟩:=dh g5
 have g6:DataW.trod enc Tryz.prog w base sp held n 36 ((cs.drop 6).take 3)=some (xs[6]'ab):=(hx 6 _ rfl).trans (List.getElem?_eq_getElem _)
 obtain⟨v6,v7,v8,⟨h6,h7,h8⟩,e6⟩:=Df g6
 refine⟨⟨v0,v1,v2,v3,v4,v5,v6,v7,v8⟩,⟨h0,h1,h2,h3,h4,h5,h6,h7,h8⟩,?_⟩
 show cs=_
 rw [show cs=cs.drop 0 from rfl,dG cs (show 0+1=1 from rfl),e0,dG cs (show 1+1=2 from rfl),e1,dG cs (show 2+1=3 from rfl),e2,dG cs (show 3+1=4 from rfl),e3,dG cs (show 4+1=5 from rfl),e4,dG cs (show 5+1=6 from rfl),e5,dG cs (show 6+3=9 from rfl),e6,List.drop_eq_nil_of_le (by omega:cs.length≤9)]
 rfl
theorem E3{n:Nat}{cs:List Value}{y:DataW H×List MemPlace}(hf:DataW.trod enc Tryz.prog w base sp held n 29 cs=some y):∃ E S:Int,(bQ E∧bQ S)∧cs=[.int .i64 E,.int .i64 S]:=by
 obtain⟨xs,n,_,_,hlen,hl,hx⟩:=DataW.trod_struct Tryz.underlying29 hf
 have hC:Tryz.prog.cellsOf 29=2:=aa
 rw [hC]at hlen
 have hl':xs.length=2:=hl
 have g0:DataW.trod enc Tryz.prog w base sp held n 3 ((cs.drop 0).take 1)=some (xs[0]'ab):=(hx 0 _ rfl).trans (List.getElem?_eq_getElem _)
 obtain⟨v0,h0,e0⟩:=dh g0
 have g1:DataW.trod enc Tryz.prog w base sp held n 3 ((cs.drop 1).take 1)=some (xs[1]'ab):=(hx 1 _ rfl).trans (List.getElem?_eq_getElem _)
 obtain⟨v1,h1,e1⟩:=dh g1
 refine⟨v0,v1,⟨h0,h1⟩,?_⟩
 show cs=_
 rw [show cs=cs.drop 0 from rfl,dG cs (show 0+1=1 from rfl),e0,dG cs (show 1+1=2 from rfl),e1,List.drop_eq_nil_of_le (by omega:cs.length≤2)]
 rfl
theorem Du{n:Nat}{cs:List Value}{y:DataW H×List MemPlace}(hf:DataW.trod enc Tryz.prog w base sp held n 39 cs=some y):∃ (A:Option Addr)(k cap:Nat)(l:List Dg),(Rd w 32 A k (bf l)∧k≤cap∧cap≤maxLen)∧cs=[.slice A k cap]:=by
 obtain⟨A,k,cap,l,h1,h2,h3,h4,_⟩:=Im (f:=ao) (sz:=32) (Q:=fun _=>True) Tryz.underlying39 aa aj al (fun n cs y h=>by obtain⟨f,e⟩:=tL h;exact⟨f,trivial,e⟩) hf
 exact⟨A,k,cap,l,⟨h2,h3,h4⟩,h1⟩
theorem wF{n:Nat}{cs:List Value}{y:DataW H×List MemPlace}(hf:DataW.trod enc Tryz.prog w base sp held n 31 cs=some y):∃ (person count E S:Int)(root:Dg),(bQ person∧bQ count∧bQ E∧bQ S)∧cs=(aX person count root E S).cells.toList:=by
 obtain⟨xs,n,_,_,hlen,hl,hx⟩:=DataW.trod_struct Tryz.underlying31 hf
 have hC:Tryz.prog.cellsOf 31=36:=aa
 rw [hC]at hlen
 have hl':xs.length=4:=hl
 have g0:DataW.trod enc Tryz.prog w base sp held n 3 ((cs.drop 0).take 1)=some (xs[0]'ab):=(hx 0 _ rfl).trans (List.getElem?_eq_getElem _)
 obtain⟨v0,h0,e0⟩:=dh g0
 have g1:DataW.trod enc Tryz.prog w base sp held n 3 ((cs.drop 1).take 1)=some (xs[1]'ab):=(hx 1 _ rfl).trans (List.getElem?_eq_getElem _)
 obtain⟨v1,h1,e1⟩:=dh g1
 have g2:DataW.trod enc Tryz.prog w base sp held n 27 ((cs.drop 2).take 32)=some (xs[2]'ab):=(hx 2 _ rfl).trans (List.getElem?_eq_getElem _)
 obtain⟨f2,e2⟩:=tL g2
 have g3:DataW.trod enc Tryz.prog w base sp held n 29 ((cs.drop 34).take 2)=some (xs[3]'ab):=(hx 3 _ rfl).trans (List.getElem?_eq_getElem _)
 obtain⟨v3,v4,⟨h3,h4⟩,e3⟩:=E3 g3
 refine⟨v0,v1,v3,v4,f2,⟨h0,h1,h3,h4⟩,?_⟩
 show cs=_
 rw [show cs=cs.drop 0 from rfl,dG cs (show 0+1=1 from rfl),e0,dG cs (show 1+1=2 from rfl),e1,dG cs (show 2+32=34 from rfl),e2,dG cs (show 34+2=36 from rfl),e3,List.drop_eq_nil_of_le (by omega:cs.length≤36)]
 rfl
theorem As{n:Nat}{cs:List Value}{y:DataW H×List MemPlace}(hf:DataW.trod enc Tryz.prog w base sp held n 41 cs=some y):∃ (k s:Int)(x:cf)(A:Option Addr)(m c:Nat)(p:List Dg),(bQ k∧bQ s∧x.fit)∧(Rd w 32 A m (bf p)∧m≤c∧c≤maxLen)∧cs=(bR k s x (.slice A m c)).cells.toList:=by
 obtain⟨xs,n,_,_,hlen,hl,hx⟩:=DataW.trod_struct Tryz.underlying41 hf
 have hC:Tryz.prog.cellsOf 41=12:=aa
 rw [hC]at hlen
 have hl':xs.length=4:=hl
 have g0:DataW.trod enc Tryz.prog w base sp held n 3 ((cs.drop 0).take 1)=some (xs[0]'ab):=(hx 0 _ rfl).trans (List.getElem?_eq_getElem _)
 obtain⟨v0,h0,e0⟩:=dh g0
 have g1:DataW.trod enc Tryz.prog w base sp held n 3 ((cs.drop 1).take 1)=some (xs[1]'ab):=(hx 1 _ rfl).trans (List.getElem?_eq_getElem _)
 obtain⟨v1,h1,e1⟩:=dh g1
 have g2:DataW.trod enc Tryz.prog w base sp held n 38 ((cs.drop 2).take 9)=some (xs[2]'ab):=(hx 2 _ rfl).trans (List.getElem?_eq_getElem _)
 obtain⟨x2,h2,e2⟩:=DM g2
 have g3:DataW.trod enc Tryz.prog w base sp held n 39 ((cs.drop 11).take 1)=some (xs[3]'ab):=(hx 3 _ rfl).trans (List.getElem?_eq_getElem _)
 obtain⟨A,k,c,l,h3,e3⟩:=Du g3
 refine⟨v0,v1,x2,A,k,c,l,⟨h0,h1,h2⟩,h3,?_⟩
 show cs=_
 rw [show cs=cs.drop 0 from rfl,dG cs (show 0+1=1 from rfl),e0,dG cs (show 1+1=2 from rfl),e1,dG cs (show 2+9=11 from rfl),e2,dG cs (show 11+1=12 from rfl),e3,List.drop_eq_nil_of_le (by omega:cs.length≤12)]
 rfl
theorem KK{t:TypeId}{fs:Array Field}(hu:Tryz.prog.underlying t=some (.struct fs))(hval:Value.okWide Tryz.prog w r b0 t v){cs:Array Value}(h:v.cells.toList=(Value.agg cs).cells.toList):v=.agg cs:=by
 obtain⟨cs',rfl,hsz⟩:=okWide_struct hu hval
 have h2:cs'.toList=cs.toList:=h
 rw [← Array.toList_inj.1 h2]
theorem yw(hval:Value.okWide Tryz.prog w r b0 31 v)(hd:DataW.Trod enc Tryz.prog w base sp held 31 v d ps):∃ (person count E S:Int)(root:Dg),v=aX person count root E S∧bQ person∧bQ count:=by
 obtain⟨fuel,hf⟩:=hd
 obtain⟨a,b,c,d,e,h,hc⟩:=wF hf
 exact⟨a,b,c,d,e,KK Tryz.underlying31 hval hc,h.1,h.2.1⟩
theorem uj(hval:Value.okWide Tryz.prog w r b0 41 v)(hd:DataW.Trod enc Tryz.prog w base sp held 41 v d ps):∃ (k s:Int)(x:cf)(A:Option Addr)(m c:Nat)(p:List Dg),v=bR k s x (.slice A m c)∧(bQ k∧bQ s∧x.fit)∧Rd w 32 A m (bf p)∧m≤c∧c≤9223372036854775807:=by
 obtain⟨fuel,hf⟩:=hd
 obtain⟨k,s,x,A,m,c,p,h,h2,hc⟩:=As hf
 rw [max_eq]at h2
 exact⟨k,s,x,A,m,c,p,KK Tryz.underlying41 hval hc,h,h2⟩
end
def ya:List (String×DataW Unit):=[("kinesphere/digest.start",Rows.laid_kinesphere_digest_start),("kinesphere/digest.numbers",Rows.laid_kinesphere_digest_numbers)]
theorem Am:Tryz.prog.globalNamed "kinesphere/digest.start" = some 0:=aa
theorem Gd:Tryz.prog.globalNamed "kinesphere/digest.numbers" = some 1:=aa
theorem Aq{W:World}(h:laidMetH Tryz.prog ya W):Laid W:=by
 rw [MakeChecks.laidMetH_plain _ _ _ aa]at h
 have h0:laidMet Tryz.prog (("kinesphere/digest.start",Lib.tabData .u32 (cP.cells.map fun v=>match v with|.int _ i=>i|_=>0))::[("kinesphere/digest.numbers",Rows.laid_kinesphere_digest_numbers)]) W:=cast aa h
 have h1:laidMet Tryz.prog (("kinesphere/digest.numbers",Lib.tabData .u32 (ct.map fun x=>(x.toNat:Int)))::[]) W:=cast aa (laidMet.tail h0)
 have T0:=Lib.tabIs_of_head Am (t:=137) (e:=136) (n:=8) aa Tryz.underlying137 Tryz.underlying136 aa aa h0
 have T1:=Lib.tabIs_of_head Gd (t:=166) (e:=136) (n:=64) aa Tryz.underlying166 Tryz.underlying136 aa aa h1
 have lt:∀ {b:Nat} {v:Value},W.cell? ⟨b,0,none⟩=some v→b<W.heap.size:=fun {b v} h1=>by
  unfold World.cell? at h1
  cases hb:W.heap[b]? with
  | none=>simp only [hb]at h1;simp at h1
  | some o=>exact(Array.getElem?_eq_some_iff.1 hb).1
 have ad:∀ b j:Nat,(⟨b,0,none⟩:Addr).add j=⟨b,j,none⟩:=fun b j=>by unfold Addr.add;split<;>simp_all
 refine⟨⟨rfl,fun _=>⟨_,rfl,lt (T0.cell Am 0 aj),fun j u hu=>?_⟩⟩,⟨by rw [SX.aL vr];rfl,fun _=>⟨_,rfl,lt (T1.cell Gd 0 aj),fun j u hu=>?_⟩⟩⟩
 ·have hj:j<8:=(List.getElem?_eq_some_iff.1 hu).1
  rw [ad,T0.cell Am j (by rw [List.length_map];exact hj),← hu]
  have:∀ j,j<8→some (Value.int .u32 ((cP.cells.map fun v=>match v with|.int _ i=>i|_=>0).getD j 0))=cP.cells[j]?:=by
   intro j hj
   match j,hj with
   | 0,_=>rfl
   | 1,_=>rfl
   | 2,_=>rfl
   | 3,_=>rfl
   | 4,_=>rfl
   | 5,_=>rfl
   | 6,_=>rfl
   | 7,_=>rfl
  exact this j hj
 have hj:j<64:=by have:=(List.getElem?_eq_some_iff.1 hu).1;rw [SX.aL vr]at this;exact this
 rw [ad,T1.cell Gd j (by rw [List.length_map];exact hj),← hu,xT,List.getElem?_map,List.getD_eq_getElem?_getD,List.getElem?_map,List.getElem?_eq_getElem (show j<ct.length from hj)]
 rfl
theorem F1(os:Os)(args:Array Value):laidMetH Tryz.prog ya ((World.doorLaid Tryz.prog 400 os).forCall (fun _ _=>0) ⟨#[],args,[]⟩).memory :=
 laidMetH_of_parts3 (fuel:=8) (laidMet_of_run' 8 aa aa) aa aa
abbrev Rw:=Dg×List W8
def eY(n i:Nat)(d:Dg)(p:List Dg):Option (List Rw) :=
 if h:n≤1 then(if p=[]then some []else none)
 else if n≤(i^^^1)then(eY ((n+1) / 2) (i / 2) d p).map ((d,[])::·)
 else match p with
  | []=>none
  | q::r=>if i % 2=0 then(eY ((n+1) / 2) (i / 2) (bP (gx d q)) r).map ((bP (gx d q),gx d q)::·)else(eY ((n+1) / 2) (i / 2) (bP (gx q d)) r).map ((bP (gx q d),gx q d)::·)
termination_by n
decreasing_by all_goals omega
theorem mb{n i:Nat}{d:Dg}{p:List Dg}(h:n≤1):eY n i d p=if p=[]then some []else none:=by rw [eY.eq_def,dif_pos h]
theorem ib{n i:Nat}{d:Dg}{p:List Dg}(h:¬ n≤1)(h2:n≤(i^^^1)):eY n i d p=(eY ((n+1) / 2) (i / 2) d p).map ((d,[])::·):=by conv=>lhs;rw [eY.eq_def,dif_neg h,if_pos h2]
theorem ma{n i:Nat}{d:Dg}(h:¬ n≤1)(h2:¬ n≤(i^^^1)):eY n i d []=none:=by rw [eY,dif_neg h,if_neg h2]
theorem ic{n i:Nat}{d q:Dg}{r:List Dg}(h:¬ n≤1)(h2:¬ n≤(i^^^1))(h3:i % 2=0):eY n i d (q::r)=(eY ((n+1) / 2) (i / 2) (bP (gx d q)) r).map ((bP (gx d q),gx d q)::·):=by conv=>lhs;rw [eY,dif_neg h,if_neg h2];simp only [h3,if_true]
theorem jI{n i:Nat}{d q:Dg}{r:List Dg}(h:¬ n≤1)(h2:¬ n≤(i^^^1))(h3:¬ i % 2=0):eY n i d (q::r)=(eY ((n+1) / 2) (i / 2) (bP (gx q d)) r).map ((bP (gx q d),gx q d)::·):=by conv=>lhs;rw [eY,dif_neg h,if_neg h2];simp only [h3,if_false]
theorem ei{o:Option (List Rw)}{a:Rw}{R:List Rw}(h:o.map (a::·)=some R):∃ R2,o=some R2∧R=a::R2:=(Option.map_eq_some_iff.1 h).imp fun _ h=>⟨h.1,h.2.symm⟩
def CN(N:List SX.Arg)(T:List dY)(R:List Rw):Prop:=T.length=R.length∧∀ (j:Nat) (h:dY) (r:Rw),T[j]?=some h→R[j]?=some r→(⟨gJ h,1,r.2.flatMap c8⟩:SX.Arg)∈N∨h=(none,0,0)∧r.2=[]
theorem CN.mono{N M:List SX.Arg}{T:List dY}{R:List Rw}(h:CN N T R)(hs:∀ y∈N,y∈M):CN M T R:=⟨h.1,fun j a r h1 h2=>(h.2 j a r h1 h2).imp_left (hs _)⟩
theorem CN.snoc{N:List SX.Arg}{T:List dY}{R:List Rw}{a:dY}{t:Rw}(h:CN N T R)(hs:(⟨gJ a,1,t.2.flatMap c8⟩:SX.Arg)∈N∨a=(none,0,0)∧t.2=[]):CN N (T++[a]) (R++[t]):=by
 refine⟨by simp [h.1],fun j b r h1 h2=>?_⟩
 rcases Nat.lt_or_ge j T.length with hj|hj
 ·rw [List.getElem?_append_left hj]at h1
  rw [List.getElem?_append_left (h.1▸hj)]at h2
  exact h.2 j b r h1 h2
 rw [List.getElem?_append_right hj]at h1
 rw [List.getElem?_append_right (h.1▸hj)]at h2
 rw [← h.1]at h2
 rcases hd:j-T.length with _|k
 ·rw [hd]at h1 h2
  simp at h1 h2
  subst h1 h2
  exact hs
 rw [hd]at h1
 simp at h1
theorem CN.one{N:List SX.Arg}{a:dY}{t:Rw}(h:(⟨gJ a,1,t.2.flatMap c8⟩:SX.Arg)∈N):CN N [a] [t]:=CN.snoc (T:=[]) (R:=[]) ⟨rfl,fun j b r h=>nomatch h⟩ (.inl h)
noncomputable def mg(nb:Nat)(K A:QV):SX.Cx:={ kG K A with nb:=nb }
theorem Px(nb:Nat)(K A:QV):(mg nb K A).Ok:=⟨(JM K A).r,(JM K A).w,(JM K A).n⟩
def uG:SX.Tree :=
(.df (.call 97 [.no,(.own 1 [(.q 2)])]) [(.k (.string ⟨#[108,101,97,102]⟩)),(.sl 6 0 1 1)] (.sl 1)
(.df (.lastq 1) [(.cat [(.q 4)])] .one
(.df (.dN 1 24 (.own 1 [(.q 5)])) [(.cat []),(.sl 8 0 1 1)] .any
(.df (.call 78 [(.ext 1)]) [(.q 5)] (.ag 32)
(.df (.dN 32 32 (.own 32 (QJ 7 0 32))) [(.cat []),(.sl 14 0 1 1)] .any
(.loop [(.q 0),(.q 1),(.q 3),(.cat [(.q 8)]),(.cat [(.q 6)])] [.one,.one,.one,.any,.any]
(.df (.bin .gtr 3) [(.q 9),(.i 1)] .one
(.br 14 []
(.df (.bin .xor 3) [(.q 10),(.i 1)] .one
(.df (.bin .geq 3) [(.q 15),(.q 9)] .one
(.df (.bin .rem 3) [(.q 10),(.i 2)] .one
(.df (.bin .eql 3) [(.q 17),(.i 0)] .one
(.df (.rlen 32) [(.cat [(.q 12)])] .one
(.df (.bin .sub 3) [(.q 19),(.i 1)] .one
(.df (.rbnd 32) [(.cat [(.q 12)]),(.q 20)] .one
(.df (.relems 32 0 32) [(.cat [(.q 12)]),(.q 20)] (.ag 32)
(.br 16 []
(.df (.dN 1 24 (.own 1 [(.k (.slice none 0 0))])) [(.cat [(.q 13)]),(.sl 28 0 1 1)] .any
(.df (.dN 32 32 (.own 32 (QJ 22 0 32))) [(.cat [(.q 12)]),(.sl 33 0 1 1)] .any
(.df (.bin .add 3) [(.q 9),(.i 1)] .one
(.df (.bin .quo 3) [(.q 25),(.i 2)] .one
(.df (.bin .quo 3) [(.q 10),(.i 2)] .one
(.again 0 [(.q 26),(.q 27),(.q 11),(.cat [(.q 12),(.q 24)]),(.cat [(.q 13),(.q 23)])]))))))
(.df (.len false) [(.q 11)] .one
(.df (.bin .eql 3) [(.q 23),(.i 0)] .one
(.br 24 []
(.ret (.t [(.a [(.k (.slice none 0 0)),(.k (.slice none 0 0))]),(.k (.bool false))]) (List.replicate 26 none) [])
(.br 18 []
(.df .bnd [(.q 11),(.i 0)] .one
(.df (.elems 32 0 32) [(.q 11),(.i 0)] (.ag 32)
(.df (.call 99 [.no,.no]) [(.a (QJ 22 0 32)),(.a (QJ 26 0 32))] (.sl 1)
(.df (.lastq 1) [(.cat [(.q 27)])] .one
(.df (.dN 1 24 (.own 1 [(.q 28)])) [(.cat [(.q 13)]),(.sl 32 0 1 1)] .any
(.df (.call 78 [(.ext 1)]) [(.q 28)] (.ag 32)
(.df (.dN 32 32 (.own 32 (QJ 30 0 32))) [(.cat [(.q 12)]),(.sl 38 0 1 1)] .any
(.df (.slc false 32 true false false) [(.q 11),(.i 1)] .one
(.df (.bin .add 3) [(.q 9),(.i 1)] .one
(.df (.bin .quo 3) [(.q 33),(.i 2)] .one
(.df (.bin .quo 3) [(.q 10),(.i 2)] .one
(.again 0 [(.q 34),(.q 35),(.q 32),(.cat [(.q 12),(.q 31)]),(.cat [(.q 13),(.q 29)])]))))))))))))
(.df .bnd [(.q 11),(.i 0)] .one
(.df (.elems 32 0 32) [(.q 11),(.i 0)] (.ag 32)
(.df (.call 99 [.no,.no]) [(.a (QJ 26 0 32)),(.a (QJ 22 0 32))] (.sl 1)
(.df (.lastq 1) [(.cat [(.q 27)])] .one
(.df (.dN 1 24 (.own 1 [(.q 28)])) [(.cat [(.q 13)]),(.sl 32 0 1 1)] .any
(.df (.call 78 [(.ext 1)]) [(.q 28)] (.ag 32)
(.df (.dN 32 32 (.own 32 (QJ 30 0 32))) [(.cat [(.q 12)]),(.sl 38 0 1 1)] .any
(.df (.slc false 32 true false false) [(.q 11),(.i 1)] .one
(.df (.bin .add 3) [(.q 9),(.i 1)] .one
(.df (.bin .quo 3) [(.q 33),(.i 2)] .one
(.df (.bin .quo 3) [(.q 10),(.i 2)] .one
(.again 0 [(.q 34),(.q 35),(.q 32),(.cat [(.q 12),(.q 31)]),(.cat [(.q 13),(.q 29)])])))))))))))))))))))))))))
(.df (.len false) [(.q 11)] .one
(.df (.bin .eql 3) [(.q 15),(.i 0)] .one
(.ret (.t [(.a [(.row 22),(.row 23)]),(.q 16)]) (List.replicate 22 none++[(some ⟨[(.q 12)],27,(.row 32)⟩),(some ⟨[(.q 13)],46,(.row 1)⟩)]) [])))))))))))
def CU:List SX.V:=[.x 0 [],.x 1 [],.x 2 [],.x 3 []]
def KZ:kp:=⟨fun f=>true,[⟨124,0,[(.c 16 0,.one),(.c 17 0,.one),(.c 0 0,.one),(.c 1 0,.row 32 27),(.c 1 1,.row 1 46)]⟩],12,100⟩
theorem Ht(nb:Nat)(K A:QV):QU (mg nb K A) KZ 67 Tryz.f67 CU [.one,.one,.one,.one]=uG:=aa
def zx(w w':World)(R:List Rw)(e:Ending)(sh:Value→Value→Value):Prop:=Below w.heap.size w w'∧∃ (h1 h2:Value) (T:List dY),e=.returned (sh h1 h2)∧T.length=R.length∧aH w w' [] h1 32 (bf (R.map (·.1)))∧aH w w' [] h2 1 (T.flatMap aA)∧∀ (j:Nat) (h:dY) (r:Rw),T[j]?=some h→R[j]?=some r→aH w w' [] (gJ h) 1 (r.2.flatMap c8)
def Kj(h1 h2:Value):Value:=.tuple #[.agg #[h1,h2],.bool true]
theorem Kk(n i:Nat)(lf:List W8)(p:List Dg)(R0:List Rw)(A:Option Addr)(k e:Nat)(B:Option Addr)(m c:Nat)(w:World)(hi:i<n)(hn:n≤65536)(hrl:Rd w 1 A k (lf.flatMap c8))(hce:k≤e)(hlf:lf≠[])(hlfl:lf.length≤17592186044416)(hr:Rd w 32 B m (bf p))(hc:m≤c)(hlaid:Laid w)(hR0:eY n i (bP (bI lf)) p=some R0):Calls Tryz.prog 67 #[.int .i64 (n:Int),.int .i64 (i:Int),.slice A k e,.slice B m c] w fun e w'=>zx w w' ((bP (bI lf),bI lf)::R0) e Kj:=by
 refine QG (Ht w.heap.size (KW w) QW) [.int .i64 (n:Int),.int .i64 (i:Int),.slice A k e,.slice B m c] (Px _ _ _) Tryz.func67 ?_ ?_ ⟨rfl,Nat.le_refl _⟩ (fun _ s sz cells h=>h.elim)
 ·exact fun W hW v z xs h=>h W hW
 have hL:bn (mg w.heap.size (KW w) QW).K:=dj hlaid
 have hKl:KW w (.slice A k e) 1 (lf.flatMap c8):=fun W hW=>⟨hrl.aJ hW,hce⟩
 have hX:=qe lf
 have hXe:bI lf=dv (sb iX)++[((.slice A k e:Value),lf)].flatMap (·.2):=by simp only [bI,List.flatMap_cons,List.flatMap_nil,List.append_nil]
 generalize bI lf=X at *
 unfold uG
 refine aO (.agg (X.flatMap c8).toArray) (fun α=>⟨[⟨.string iX,0,[]⟩,⟨.slice (some ⟨(α 6).b,0,none⟩) 1 1,1,[.slice A k e]⟩],⟨aa,aa,aa,trivial⟩,.inr (.inl ⟨rfl,hL,iX,(α 6).b,0,1,1,[(.slice A k e,lf)],rfl,(fun q hq=>by rw [List.mem_singleton.1 hq];exact hKl),aj,ai,ai,by simp only [List.flatMap_cons,List.flatMap_nil,List.append_nil];omega,af hlf,by rw [hXe]⟩),ap rfl⟩) (bg _) ?_
 refine dM (fun v N=>∃ A2 n2 c2,v=.slice A2 n2 c2∧N=[⟨.slice A2 n2 c2,1,X.flatMap c8⟩]) al (fun α A2 n2 c2 _ _ _=>⟨A2,n2,c2,rfl,Eq.trans (b:=[⟨.slice A2 n2 c2,1,[Value.agg ([Value.agg (X.flatMap c8).toArray].flatMap ae).toArray].flatMap ae⟩]) aa (by simp [ae])⟩) ?_
 rintro _ _-⟨A2,n2,c2,rfl,rfl⟩
 refine QC (.agg ([((A2,n2,c2):dY)].flatMap aA).toArray) (fun α=>az (f:=aA) (l1:=[]) (l2:=[((A2,n2,c2):dY)]) al cB aj aa (aS aa) ai ai) ?_
 refine QC (dK (bP X)) (fun α=>⟨[⟨.slice A2 n2 c2,1,X.flatMap c8⟩],⟨aa,rfl,cast aa (eR (C:=mg w.heap.size (KW w) QW) (N:=[⟨.slice A2 n2 c2,1,X.flatMap c8⟩]++[]) (List.mem_singleton.2 rfl)),trivial⟩,.inl (jb (jN hL) ab),ap rfl⟩) ?_
 generalize bP X=D at *
 refine QC (.agg ([D].flatMap ao).toArray) (fun α=>az (f:=ao) (l1:=[]) (l2:=[D]) al bL aj aa ⟨⟨.slice (some ⟨(α 14).b,0,none⟩) 1 1,32,[D].flatMap ao⟩,QO,rfl,rfl⟩ ai ai) ?_
 have hL1:bn ((mg w.heap.size (KW w) QW).plus ([⟨.slice A2 n2 c2,1,X.flatMap c8⟩]++(mg w.heap.size (KW w) QW).N)).K:=jN hL
 have hK1:∀ s z xs,KW w s z xs→((mg w.heap.size (KW w) QW).plus ([⟨.slice A2 n2 c2,1,X.flatMap c8⟩]++(mg w.heap.size (KW w) QW).N)).K s z xs:=fun s z xs h=>.inl h
 refine mZ (fun xs N=>∃ (n1 i1:Nat) (B1:Option Addr) (m1 c1:Nat) (q acc:List Dg) (d:Dg) (T:List dY),xs=[.int .i64 (n1:Int),.int .i64 (i1:Int),.slice B1 m1 c1,.agg (bf (acc++[d])).toArray,.agg (T.flatMap aA).toArray]∧i1<65536∧n1≤65536∧Rd w 32 B1 m1 (bf q)∧m1≤c1∧q.length=m1∧acc.length+n1≤65537∧T.length=acc.length+1∧∃ R R1:List Rw,R.map (·.1)=acc++[d]∧eY n1 i1 d q=some R1∧R++R1=(D,X)::R0∧CN N T R) (fun xs=>match xs with|.int _ i::_=>i.toNat|_=>0) al (fun α=>⟨[⟨.slice A2 n2 c2,1,X.flatMap c8⟩],(fun y hy=>List.mem_append_left _ hy),n,i,B,m,c,p,[],D,[(A2,n2,c2)],Eq.trans (b:=[.int .i64 (n:Int),.int .i64 (i:Int),.slice B m c,.agg ([Value.agg ([D].flatMap ao).toArray].flatMap ae).toArray,.agg ([Value.agg ([((A2,n2,c2):dY)].flatMap aA).toArray].flatMap ae).toArray]) aa (by simp [ae,bf]),ab,hn,hr,hc,by have:=hr.1;rw [gr]at this;omega,aw,rfl,[(D,X)],R0,rfl,hR0,rfl,CN.one (List.mem_singleton.2 rfl)⟩) ?_
 rintro xs N-⟨n1,i1,B1,m1,c1,q,acc,d,T,rfl,hi1,hn1,hr1,hc1,hm1,hac,hT,R,R1,hRa,hI,hRR,hF⟩
 have hL2:=jN (N:=N) hL1
 have hKq:=zr (N:=N) (hK1 (.slice B1 m1 c1) 32 (bf q) fun W hW=>⟨hr1.aJ hW,hc1⟩)
 have hB1:=SX.rd_some hr1
 refine QF (.bool (decide (1<n1))) (eN n1 1) ?_
 refine QD (decide (1<n1)) (fun h1=>?_) (fun h1=>?_)
 ·have h1:1<n1:=af h1
  refine QF (.int .i64 ((i1^^^1:Nat):Int)) (An (a:=i1) ab) ?_
  refine QF (.bool (decide (n1≤(i1^^^1)))) (gu (i1^^^1) n1) ?_
  refine QF (.int .i64 ((i1 % 2:Nat):Int)) (oB (a:=i1) ab) ?_
  refine QF (.bool (decide (i1 % 2=0))) (oA (i1 % 2)) ?_
  have hlast:(acc++[d])[acc.length]?=some d:=ai
  refine QC (.int .i64 (((acc++[d]).length:Nat):Int)) (fun α=>pr (f:=ao) (l:=acc++[d]) al aj (bz (j:=12) aa)) ?_
  refine QF (.int .i64 ((acc.length:Nat):Int)) (mF (a:=(acc++[d]).length) (b:=1) (d:=acc.length) ai aw) ?_
  refine QC (.bool true) (fun α=>iZ (f:=ao) (l:=acc++[d]) (k:=acc.length) al aj (bz (j:=12) aa) aa ai) ?_
  refine QC (dK d) (fun α=>lY (k:=acc.length) (f:=ao) (l:=acc++[d]) al aj (bz (j:=12) aa) aa hlast) ?_
  refine QD (decide (n1≤(i1^^^1))) (fun h2=>?_) (fun h2=>?_)
  ·have h2:n1≤(i1^^^1):=af h2
   refine QC (.agg ([((none,0,0):dY)].flatMap aA).toArray) (fun α=>az (f:=aA) (l1:=T) (l2:=[((none,0,0):dY)]) al cB aj (bz (j:=13) aa) (aS aa) aw aw) ?_
   refine QC (.agg ([d].flatMap ao).toArray) (fun α=>az (f:=ao) (l1:=acc++[d]) (l2:=[d]) al bL aj (bz (j:=12) aa) ⟨⟨.slice (some ⟨(α 33).b,0,none⟩) 1 1,32,[d].flatMap ao⟩,QO,rfl,rfl⟩ aw aw) ?_
   refine QF (.int .i64 ((n1+1:Nat):Int)) (cC (a:=n1) (b:=1) (d:=n1+1) rfl ab) ?_
   refine QF (.int .i64 (((n1+1) / 2:Nat):Int)) (cM (a:=n1+1) ab) ?_
   refine QF (.int .i64 ((i1 / 2:Nat):Int)) (cM (a:=i1) ab) ?_
   obtain⟨R2,hI2,rfl⟩:=ei ((ib ab h2).symm.trans hI)
   exact bO fun α=>⟨rfl,N,(fun y hy=>hy),⟨(n1+1) / 2,i1 / 2,_,m1,c1,q,acc++[d],d,T++[(none,0,0)],Eq.trans (b:=[.int .i64 (((n1+1) / 2:Nat):Int),.int .i64 ((i1 / 2:Nat):Int),.slice B1 m1 c1,.agg ([Value.agg (bf (acc++[d])).toArray,.agg ([d].flatMap ao).toArray].flatMap ae).toArray,.agg ([Value.agg (T.flatMap aA).toArray,.agg ([(none,0,0)].flatMap aA).toArray].flatMap ae).toArray]) aa (by simp [ae,bf,bo]),ab,ab,hr1,hc1,hm1,aw,by simp [hT],R++[(d,[])],R2,by simp [hRa],hI2,by rw [← hRR];simp,hF.snoc (.inr ⟨rfl,rfl⟩)⟩,cast aa (show(((n1+1) / 2:Nat):Int).toNat<(n1:Int).toNat by omega)⟩
  have h2:¬ n1≤(i1^^^1):=af h2
  refine QB (.int .i64 (m1:Int)) ?_
  refine QF (.bool (decide (m1=0))) (oA m1) ?_
  refine QD (decide (m1=0)) (fun hm0=>?_) (fun hm0=>?_)
  ·have hm0:m1=0:=af hm0
   have hq:q=[]:=List.eq_nil_of_length_eq_zero ab
   rw [hq,ma ab h2]at hI
   exact nomatch hI
  have hm0:0<m1:=by
   have:¬ m1=0:=af hm0
   omega
  rcases q with _|⟨q0,q⟩
  ·simp at hm1;omega
  simp only [List.length_cons]at hm1
  refine QD (decide (i1 % 2=0)) (fun h3=>?_) (fun h3=>?_)
  ·have h3:i1 % 2=0:=af h3
   refine QM B1 m1 c1 0 hB1 hm0 ?_
   refine QN (f:=ao) (l:=q0::q) (dK q0) B1 m1 c1 0 q0 hB1 hm0 (cast aa hKq) rfl ?_
   have hY:=j7 d q0
   obtain⟨R2,hI2,rfl⟩:=ei ((ic ab ab h3).symm.trans hI)
   refine aO (.agg ((gx d q0).flatMap c8).toArray) (fun α=>⟨[⟨dK d,0,[]⟩,⟨dK q0,0,[]⟩],QQ,.inr (.inr ⟨rfl,hL2,d,q0,rfl,rfl⟩),ap rfl⟩) (bg _) ?_
   generalize gx d q0=Y at *
   refine dM (fun v N=>∃ A3 n3 c3,v=.slice A3 n3 c3∧N=[⟨.slice A3 n3 c3,1,Y.flatMap c8⟩]) al (fun α A3 n3 c3 _ _ _=>⟨A3,n3,c3,rfl,Eq.trans (b:=[⟨.slice A3 n3 c3,1,[Value.agg ([Value.agg (Y.flatMap c8).toArray].flatMap ae).toArray].flatMap ae⟩]) aa (by simp [ae])⟩) ?_
   have hKm:∀ (A3:Option Addr) (n3 c3:Nat),((((mg w.heap.size (KW w) QW).plus ([⟨.slice A2 n2 c2,1,X.flatMap c8⟩]++(mg w.heap.size (KW w) QW).N)).plus N).plus ([⟨.slice A3 n3 c3,1,Y.flatMap c8⟩]++(((mg w.heap.size (KW w) QW).plus ([⟨.slice A2 n2 c2,1,X.flatMap c8⟩]++(mg w.heap.size (KW w) QW).N)).plus N).N)).K (.slice A3 n3 c3) 1 (Y.flatMap c8):=fun A3 n3 c3=>eR (List.mem_append_left _ (List.mem_singleton.2 rfl))
   rintro _ _-⟨A3,n3,c3,rfl,rfl⟩
   refine QC (.agg ([((A3,n3,c3):dY)].flatMap aA).toArray) (fun α=>az (f:=aA) (l1:=T) (l2:=[((A3,n3,c3):dY)]) al cB aj (bz (j:=13) aa) (aS aa) aw aw) ?_
   refine QC (dK (bP Y)) (fun α=>⟨[⟨.slice A3 n3 c3,1,Y.flatMap c8⟩],⟨aa,rfl,cast aa (hKm A3 n3 c3),trivial⟩,.inl (jb (jN hL2) ab),ap rfl⟩) ?_
   generalize bP Y=DY at *
   refine QC (.agg ([DY].flatMap ao).toArray) (fun α=>az (f:=ao) (l1:=acc++[d]) (l2:=[DY]) al bL aj (bz (j:=12) aa) ⟨⟨.slice (some ⟨(α 38).b,0,none⟩) 1 1,32,[DY].flatMap ao⟩,QO,rfl,rfl⟩ aw aw) ?_
   refine QC (bo B1 32 1 m1 c1) (fun α=>du (A:=B1) (n:=m1) (c:=c1) (k:=1) aa aa hm0) ?_
   refine QF (.int .i64 ((n1+1:Nat):Int)) (cC (a:=n1) (b:=1) (d:=n1+1) rfl ab) ?_
   refine QF (.int .i64 (((n1+1) / 2:Nat):Int)) (cM (a:=n1+1) ab) ?_
   refine QF (.int .i64 ((i1 / 2:Nat):Int)) (cM (a:=i1) ab) ?_
   exact bO fun α=>⟨rfl,⟨.slice A3 n3 c3,1,Y.flatMap c8⟩::N,(fun y hy=>(List.mem_cons.1 hy).elim (fun h=>h▸List.mem_append_left _ (List.mem_singleton.2 rfl)) fun h=>List.mem_append_right _ h),⟨(n1+1) / 2,i1 / 2,_,m1-1,c1-1,q,acc++[d],DY,T++[(A3,n3,c3)],Eq.trans (b:=[.int .i64 (((n1+1) / 2:Nat):Int),.int .i64 ((i1 / 2:Nat):Int),bo B1 32 1 m1 c1,.agg ([Value.agg (bf (acc++[d])).toArray,.agg ([DY].flatMap ao).toArray].flatMap ae).toArray,.agg ([Value.agg (T.flatMap aA).toArray,.agg ([(A3,n3,c3)].flatMap aA).toArray].flatMap ae).toArray]) aa (by simp [ae,bf,bo]),ab,ab,hr1.cut hm0 hc1,ab,ab,aw,by simp [hT],R++[(DY,Y)],R2,by simp [hRa],hI2,by rw [← hRR];simp,(hF.mono fun y hy=>List.mem_cons_of_mem _ hy).snoc (.inl (List.mem_cons_self ..))⟩,cast aa (show(((n1+1) / 2:Nat):Int).toNat<(n1:Int).toNat by omega)⟩
  have h3:¬ i1 % 2=0:=af h3
  refine QM B1 m1 c1 0 hB1 hm0 ?_
  refine QN (f:=ao) (l:=q0::q) (dK q0) B1 m1 c1 0 q0 hB1 hm0 (cast aa hKq) rfl ?_
  have hY:=j7 q0 d
  obtain⟨R2,hI2,rfl⟩:=ei ((jI ab ab h3).symm.trans hI)
  refine aO (.agg ((gx q0 d).flatMap c8).toArray) (fun α=>⟨[⟨dK q0,0,[]⟩,⟨dK d,0,[]⟩],QQ,.inr (.inr ⟨rfl,hL2,q0,d,rfl,rfl⟩),ap rfl⟩) (bg _) ?_
  generalize gx q0 d=Y at *
  refine dM (fun v N=>∃ A3 n3 c3,v=.slice A3 n3 c3∧N=[⟨.slice A3 n3 c3,1,Y.flatMap c8⟩]) al (fun α A3 n3 c3 _ _ _=>⟨A3,n3,c3,rfl,Eq.trans (b:=[⟨.slice A3 n3 c3,1,[Value.agg ([Value.agg (Y.flatMap c8).toArray].flatMap ae).toArray].flatMap ae⟩]) aa (by simp [ae])⟩) ?_
  have hKm:∀ (A3:Option Addr) (n3 c3:Nat),((((mg w.heap.size (KW w) QW).plus ([⟨.slice A2 n2 c2,1,X.flatMap c8⟩]++(mg w.heap.size (KW w) QW).N)).plus N).plus ([⟨.slice A3 n3 c3,1,Y.flatMap c8⟩]++(((mg w.heap.size (KW w) QW).plus ([⟨.slice A2 n2 c2,1,X.flatMap c8⟩]++(mg w.heap.size (KW w) QW).N)).plus N).N)).K (.slice A3 n3 c3) 1 (Y.flatMap c8):=fun A3 n3 c3=>eR (List.mem_append_left _ (List.mem_singleton.2 rfl))
  rintro _ _-⟨A3,n3,c3,rfl,rfl⟩
  refine QC (.agg ([((A3,n3,c3):dY)].flatMap aA).toArray) (fun α=>az (f:=aA) (l1:=T) (l2:=[((A3,n3,c3):dY)]) al cB aj (bz (j:=13) aa) (aS aa) aw aw) ?_
  refine QC (dK (bP Y)) (fun α=>⟨[⟨.slice A3 n3 c3,1,Y.flatMap c8⟩],⟨aa,rfl,cast aa (hKm A3 n3 c3),trivial⟩,.inl (jb (jN hL2) ab),ap rfl⟩) ?_
  generalize bP Y=DY at *
  refine QC (.agg ([DY].flatMap ao).toArray) (fun α=>az (f:=ao) (l1:=acc++[d]) (l2:=[DY]) al bL aj (bz (j:=12) aa) ⟨⟨.slice (some ⟨(α 38).b,0,none⟩) 1 1,32,[DY].flatMap ao⟩,QO,rfl,rfl⟩ aw aw) ?_
  refine QC (bo B1 32 1 m1 c1) (fun α=>du (A:=B1) (n:=m1) (c:=c1) (k:=1) aa aa hm0) ?_
  refine QF (.int .i64 ((n1+1:Nat):Int)) (cC (a:=n1) (b:=1) (d:=n1+1) rfl ab) ?_
  refine QF (.int .i64 (((n1+1) / 2:Nat):Int)) (cM (a:=n1+1) ab) ?_
  refine QF (.int .i64 ((i1 / 2:Nat):Int)) (cM (a:=i1) ab) ?_
  exact bO fun α=>⟨rfl,⟨.slice A3 n3 c3,1,Y.flatMap c8⟩::N,(fun y hy=>(List.mem_cons.1 hy).elim (fun h=>h▸List.mem_append_left _ (List.mem_singleton.2 rfl)) fun h=>List.mem_append_right _ h),⟨(n1+1) / 2,i1 / 2,_,m1-1,c1-1,q,acc++[d],DY,T++[(A3,n3,c3)],Eq.trans (b:=[.int .i64 (((n1+1) / 2:Nat):Int),.int .i64 ((i1 / 2:Nat):Int),bo B1 32 1 m1 c1,.agg ([Value.agg (bf (acc++[d])).toArray,.agg ([DY].flatMap ao).toArray].flatMap ae).toArray,.agg ([Value.agg (T.flatMap aA).toArray,.agg ([(A3,n3,c3)].flatMap aA).toArray].flatMap ae).toArray]) aa (by simp [ae,bf,bo]),ab,ab,hr1.cut hm0 hc1,ab,ab,aw,by simp [hT],R++[(DY,Y)],R2,by simp [hRa],hI2,by rw [← hRR];simp,(hF.mono fun y hy=>List.mem_cons_of_mem _ hy).snoc (.inl (List.mem_cons_self ..))⟩,cast aa (show(((n1+1) / 2:Nat):Int).toNat<(n1:Int).toNat by omega)⟩
 have h1:¬ 1<n1:=af h1
 refine QB (.int .i64 (m1:Int)) ?_
 refine QF (.bool (decide (m1=0))) (oA m1) ?_
 rw [mb ab]at hI
 split at hI
 ·rename_i hq
  injection hI with hI
  subst hI hq
  simp only [List.length_nil]at hm1
  subst hm1
  rw [List.append_nil]at hRR
  subst hRR
  refine aK fun α W _ hrow hS=>⟨hS.below,_,_,T,aa,by have:=congrArg List.length hRa;simp at this ⊢;omega,aH.row hS (n:=22) (b:=(⟨[(.x 12 [])],27,(.row 32)⟩:ak)) aa rfl (hrow 22 _ aa) (Eq.trans (b:=[Value.agg (bf (acc++[d])).toArray].flatMap ae) aa (by simp [ae,hRa])),aH.row hS (n:=23) (b:=(⟨[(.x 13 [])],46,(.row 1)⟩:ak)) aa rfl (hrow 23 _ aa) (Eq.trans (b:=[Value.agg (T.flatMap aA).toArray].flatMap ae) aa (by simp [ae])),fun j h r hj hr=>?_⟩
  rcases hF.2 j h r hj hr with hy|⟨rfl,hr0⟩
  ·have hN2:=hS.fact (p:=SX.NF _) (List.mem_append.2 (.inr (List.mem_cons_of_mem _ (List.mem_cons_self ..)))) _ hy
   exact⟨⟨h.1,h.2.1,h.2.2,rfl,hN2.1.2⟩,hN2.1,.inl hN2.2⟩
  rw [hr0]
  exact⟨⟨none,0,0,rfl,Nat.le_refl _⟩,⟨Rd.none_,Nat.le_refl _⟩,.inl fun ad n c e=>nomatch e⟩
 exact nomatch hI
theorem MI(e f g:cm):g^^^(e&&&(f^^^g))=(e&&&f)^^^(~~~e&&&g):=by
 apply BitVec.eq_of_getLsbD_eq
 intro i hi
 simp only [BitVec.getLsbD_xor,BitVec.getLsbD_and,BitVec.getLsbD_not]
 cases e.getLsbD i<;>cases f.getLsbD i<;>cases g.getLsbD i<;>simp [hi]
theorem LD(a b c:cm):(a&&&b)|||(c&&&(a|||b))=(a&&&b)^^^(a&&&c)^^^(b&&&c):=by
 apply BitVec.eq_of_getLsbD_eq
 intro i hi
 simp only [BitVec.getLsbD_xor,BitVec.getLsbD_and,BitVec.getLsbD_or]
 cases a.getLsbD i<;>cases b.getLsbD i<;>cases c.getLsbD i<;>rfl
def uC(a b c d:W8):cm:=a.setWidth 32<<<24|||b.setWidth 32<<<16|||c.setWidth 32<<<8|||d.setWidth 32
theorem H5(a b c d:W8):uC a b c d=sO a b c d:=by
 unfold sO uC
 have h0:(0:cm)<<<(8+8+8)=0:=rfl
 simp only [BitVec.shiftLeft_or_distrib,← BitVec.shiftLeft_add,h0]
 rw [show ∀ x:cm,(0:cm)|||x=x from fun x=>BitVec.zero_or]
def aP(x:cm)(n:Nat):cm:=x>>>n|||x<<<(32-n)
theorem fc(x:cm){n:Nat}{k:Int}(hk:aD k=32-n)(hn:n<32):aP x n=ca x (aD k):=by
 unfold aP ca
 rw [hk,show 32-(32-n)=n by omega,BitVec.or_comm]
def Eu(x:cm)(a b c:Nat):cm:=aP x a^^^aP x b^^^aP x c
theorem L6(x:cm):Eu x 6 11 25=sig x 6 11 25:=by
 unfold Eu sig
 rw [fc x (n:=6) (k:=-6) rfl ab,fc x (n:=11) (k:=-11) rfl ab,fc x (n:=25) (k:=-25) rfl ab]
theorem L5(x:cm):Eu x 2 13 22=sig x 2 13 22:=by
 unfold Eu sig
 rw [fc x (n:=2) (k:=-2) rfl ab,fc x (n:=13) (k:=-13) rfl ab,fc x (n:=22) (k:=-22) rfl ab]
def A5(u:List cm)(t:Nat):cm:=u.getD (t-16) 0+(aP (u.getD (t-15) 0) 7^^^aP (u.getD (t-15) 0) 18^^^u.getD (t-15) 0>>>3)+u.getD (t-7) 0+(aP (u.getD (t-2) 0) 17^^^aP (u.getD (t-2) 0) 19^^^u.getD (t-2) 0>>>10)
theorem Ep(u:List cm)(t:Nat):A5 u t=ui u t:=by
 unfold A5 ui
 rw [fc _ (n:=7) (k:=-7) rfl ab,fc _ (n:=18) (k:=-18) rfl ab,fc _ (n:=17) (k:=-17) rfl ab,fc _ (n:=19) (k:=-19) rfl ab]
def S8.rp(s:S8)(k w:cm):cm:=s.h+Eu s.e 6 11 25+((s.e&&&s.f)^^^(~~~s.e&&&s.g))+k+w
def S8.rq(s:S8):cm:=Eu s.a 2 13 22+((s.a&&&s.b)^^^(s.a&&&s.c)^^^(s.b&&&s.c))
theorem JZ(s:S8)(k w:cm):s.jM k w=⟨s.rp k w+s.rq,s.a,s.b,s.c,s.d+s.rp k w,s.e,s.f,s.g⟩:=by
 have hp:s.p k w=s.rp k w:=by unfold S8.p S8.rp;rw [L6,MI]
 have hq:s.q=s.rq:=by unfold S8.q S8.rq;rw [L5,LD]
 unfold S8.jM
 rw [hp,hq]
def kS(n:Nat):Nat:=(119-n % 64) % 64
def pS(l:List W8):List W8:=l++[128]++List.replicate (kS l.length) 0++mB (8*l.length)
theorem sW(s:S8)(l t:List W8):cG s (l++t)=cG (cG s l).1 ((cG s l).2++t):=by
 induction hn:l.length using Nat.strongRecOn generalizing s l with
 | _ n ih =>
  by_cases h:64≤l.length
  ·rw [fu h,fu (by rw [List.length_append];omega),List.take_append_of_le_length h,List.drop_append_of_le_length h]
   exact ih _ (by rw [List.length_drop];omega) _ _ rfl
  rw [gX h]
theorem xj(s:S8)(l:List W8):(cG s l).2.length=l.length % 64:=by
 induction hn:l.length using Nat.strongRecOn generalizing s l with
 | _ n ih =>
  by_cases h:64≤l.length
  ·rw [fu h,ih _ (by rw [List.length_drop];omega) _ _ rfl,List.length_drop,hn];omega
  rw [gX h];show l.length=_;omega
theorem qs{s:S8}{l:List W8}(h:l.length=64):(cG s l).1=bK s l:=by
 rw [fu ab,List.take_of_length_le ab,gX (by rw [List.length_drop];omega)]
theorem zy{s:S8}{l t:List W8}(h:l.length=64)(ht:t.length=64):(cG s (l++t)).1=bK (bK s l) t:=by
 rw [fu (by rw [List.length_append];omega),List.take_left' h,List.drop_left' h,qs ht]
theorem oE(r:List W8)(h:r.length<64):marked r=r++[128]++List.replicate (63-r.length) 0:=by
 unfold marked
 rw [List.set_append_right _ _ (Nat.le_refl _),Nat.sub_self,show 64-r.length=(63-r.length)+1 by omega,List.replicate_succ,List.set_cons_zero,List.append_assoc,List.singleton_append]
theorem Jo(s:S8)(r:List W8)(n:Nat)(h:r.length=n % 64):Dw s r n=(cG s (r++[128]++List.replicate (kS n) 0++mB (8*n))).1:=by
 have hr:r.length<64:=ab
 have hb:(mB (8*n)).length=8:=rfl
 unfold Dw kS
 by_cases h55:55<r.length
 ·rw [if_pos h55]
  have e:(119-n % 64) % 64=(63-r.length)+56:=ab
  rw [e,← List.replicate_append_replicate,← List.append_assoc,List.append_assoc,← oE r hr,zy]
  ·rw [oE r hr];simp;omega
  simp [hb]
 rw [if_neg h55]
 have e:(119-n % 64) % 64=55-r.length:=ab
 have e2:(marked r).take 56=r++[128]++List.replicate (55-r.length) 0:=by
  rw [oE r hr,show 63-r.length=(55-r.length)+8 by omega,← List.replicate_append_replicate,← List.append_assoc]
  exact List.take_left' aw
 rw [e,← e2,qs]
 rw [List.length_append,hb,e2];simp;omega
theorem Kc(l:List W8):dv l=DX (cG cP (pS l)).1:=by
 unfold dv pS
 rw [Jo _ _ _ (xj _ _)]
 simp only [List.append_assoc]
 rw [sW cP l]
theorem GU(l:List W8):(pS l).length % 64=0:=by
 unfold pS kS
 simp only [List.length_append,List.length_replicate,List.length_cons,List.length_nil,show(mB (8*l.length)).length=8 from rfl]
 omega
def tA:List SX.V:=[.x 0 [],.x 1 []]
def oT:SX.Tree :=
(.df (.bin .shr 136) [(.q 0),(.q 1)] .one
(.df (.bin .sub 3) [(.i 32),(.q 1)] .one
(.df (.bin .shl 136) [(.q 0),(.q 3)] .one
(.df (.bin .or 136) [(.q 2),(.q 4)] .one
(.ret (.q 5) [] [])))))
theorem HS(K A:QV):QU (sU K A) ⟨fun _=>false,[],0,100⟩ 138 Tryz.f138 tA [.one,.one]=oT:=aa
theorem Hp(x:cm)(n:Nat)(h0:0<n)(hn:n<32)(w:World):RT 138 #[aI x,.int .i64 (n:Int)] w (aI (aP x n)):=by
 refine b8 (C:=sU QW QW) (G:=⟨fun _=>false,[],0,100⟩) (args:=tA) (sh:=[.one,.one]) (ρ:=[aI x,.int .i64 (n:Int)]) 100000 oT (fo _ _) Tryz.func138 rfl (cast aa (HS QW QW)) aa aa aa (fun _ _ _ _ _ h=>h.elim) ?_
 unfold oT
 refine QF (aI (x>>>n)) (sN x .i64 n hn) ?_
 refine QF (.int .i64 ((32-n:Nat):Int)) (mF (a:=32) (b:=n) (d:=32-n) ab ab) ?_
 refine QF (aI (x<<<(32-n))) (pP x .i64 (32-n) ab) ?_
 refine QF (aI (aP x n)) (sM (x>>>n) (x<<<(32-n))) ?_
 exact QE (aI (aP x n)) rfl
def qA:List SX.V:=[.x 0 []]
def mW:SX.Tree :=
(.df .bnd [(.q 0),(.i 0)] .one
(.df (.elem 1 0) [(.q 0),(.i 0)] .one
(.df (.conv .u32) [(.q 2)] .one
(.df (.bin .shl 136) [(.q 3),(.k (.int .u64 24))] .one
(.df .bnd [(.q 0),(.i 1)] .one
(.df (.elem 1 0) [(.q 0),(.i 1)] .one
(.df (.conv .u32) [(.q 6)] .one
(.df (.bin .shl 136) [(.q 7),(.k (.int .u64 16))] .one
(.df (.bin .or 136) [(.q 4),(.q 8)] .one
(.df .bnd [(.q 0),(.i 2)] .one
(.df (.elem 1 0) [(.q 0),(.i 2)] .one
(.df (.conv .u32) [(.q 11)] .one
(.df (.bin .shl 136) [(.q 12),(.k (.int .u64 8))] .one
(.df (.bin .or 136) [(.q 9),(.q 13)] .one
(.df .bnd [(.q 0),(.i 3)] .one
(.df (.elem 1 0) [(.q 0),(.i 3)] .one
(.df (.conv .u32) [(.q 16)] .one
(.df (.bin .or 136) [(.q 14),(.q 17)] .one
(.ret (.q 18) [] [])))))))))))))))))))
theorem EU(K A:QV):QU (sU K A) ⟨fun _=>false,[],0,100⟩ 137 Tryz.f137 qA [.any]=mW:=aa
theorem EZ(b0 b1 b2 b3:W8)(A:Option Addr)(n c:Nat)(w:World)(hr:Rd w 1 A n ([b0,b1,b2,b3].flatMap c8))(hc:n≤c):RT 137 #[.slice A n c] w (aI (uC b0 b1 b2 b3)):=by
 obtain rfl:4=n:=by have:=hr.1;rw [SX.aL aQ]at this;simpa using this
 have hA:=SX.rd_some hr
 refine b8 (C:=sU (fun v z xs=>v=.slice A 4 c∧z=1∧xs=[b0,b1,b2,b3].flatMap c8) QW) (G:=⟨fun _=>false,[],0,100⟩) (args:=qA) (sh:=[.any]) (ρ:=[.slice A 4 c]) 100000 mW (fo _ _) Tryz.func137 rfl (cast aa (EU (fun v z xs=>v=.slice A 4 c∧z=1∧xs=[b0,b1,b2,b3].flatMap c8) QW)) aa aa aa (fun W hW v z xs ⟨h1,h2,h3⟩=>by subst h1;subst h2;subst h3;exact⟨hr.aJ hW,hc⟩) ?_
 unfold mW
 refine QM A 4 c 0 hA ab ?_
 refine QC (w8 b0) (fun α=>cS (f:=c8) (l:=[b0,b1,b2,b3]) (A:=A) (n:=4) (c:=c) (j:=0) (z:=b0) aQ hA aa aa ab ⟨rfl,rfl,rfl⟩ rfl ab rfl) ?_
 refine QF (aI (b0.setWidth 32)) (jc b0) ?_
 refine QF (aI ((b0.setWidth 32:cm)<<<24)) (pP (b0.setWidth 32:cm) .u64 24 ab) ?_
 refine QM A 4 c 1 hA ab ?_
 refine QC (w8 b1) (fun α=>cS (f:=c8) (l:=[b0,b1,b2,b3]) (A:=A) (n:=4) (c:=c) (j:=1) (z:=b1) aQ hA aa aa ab ⟨rfl,rfl,rfl⟩ rfl ab rfl) ?_
 refine QF (aI (b1.setWidth 32)) (jc b1) ?_
 refine QF (aI ((b1.setWidth 32:cm)<<<16)) (pP (b1.setWidth 32:cm) .u64 16 ab) ?_
 refine QF (aI (((b0.setWidth 32:cm)<<<24)|||((b1.setWidth 32:cm)<<<16))) (sM ((b0.setWidth 32:cm)<<<24) ((b1.setWidth 32:cm)<<<16)) ?_
 refine QM A 4 c 2 hA ab ?_
 refine QC (w8 b2) (fun α=>cS (f:=c8) (l:=[b0,b1,b2,b3]) (A:=A) (n:=4) (c:=c) (j:=2) (z:=b2) aQ hA aa aa ab ⟨rfl,rfl,rfl⟩ rfl ab rfl) ?_
 refine QF (aI (b2.setWidth 32)) (jc b2) ?_
 refine QF (aI ((b2.setWidth 32:cm)<<<8)) (pP (b2.setWidth 32:cm) .u64 8 ab) ?_
 refine QF (aI ((((b0.setWidth 32:cm)<<<24)|||((b1.setWidth 32:cm)<<<16))|||((b2.setWidth 32:cm)<<<8))) (sM (((b0.setWidth 32:cm)<<<24)|||((b1.setWidth 32:cm)<<<16)) ((b2.setWidth 32:cm)<<<8)) ?_
 refine QM A 4 c 3 hA ab ?_
 refine QC (w8 b3) (fun α=>cS (f:=c8) (l:=[b0,b1,b2,b3]) (A:=A) (n:=4) (c:=c) (j:=3) (z:=b3) aQ hA aa aa ab ⟨rfl,rfl,rfl⟩ rfl ab rfl) ?_
 refine QF (aI (b3.setWidth 32)) (jc b3) ?_
 refine QF (aI (((((b0.setWidth 32:cm)<<<24)|||((b1.setWidth 32:cm)<<<16))|||((b2.setWidth 32:cm)<<<8))|||(b3.setWidth 32:cm))) (sM ((((b0.setWidth 32:cm)<<<24)|||((b1.setWidth 32:cm)<<<16))|||((b2.setWidth 32:cm)<<<8)) (b3.setWidth 32:cm)) ?_
 exact QE (aI (uC b0 b1 b2 b3)) rfl
def qz:List SX.V:=[]
def mV:SX.Tree :=
(.ret (.a [(.k (.int .u32 1116352408)),(.k (.int .u32 1899447441)),(.k (.int .u32 3049323471)),(.k (.int .u32 3921009573)),(.k (.int .u32 961987163)),(.k (.int .u32 1508970993)),(.k (.int .u32 2453635748)),(.k (.int .u32 2870763221)),(.k (.int .u32 3624381080)),(.k (.int .u32 310598401)),(.k (.int .u32 607225278)),(.k (.int .u32 1426881987)),(.k (.int .u32 1925078388)),(.k (.int .u32 2162078206)),(.k (.int .u32 2614888103)),(.k (.int .u32 3248222580)),(.k (.int .u32 3835390401)),(.k (.int .u32 4022224774)),(.k (.int .u32 264347078)),(.k (.int .u32 604807628)),(.k (.int .u32 770255983)),(.k (.int .u32 1249150122)),(.k (.int .u32 1555081692)),(.k (.int .u32 1996064986)),(.k (.int .u32 2554220882)),(.k (.int .u32 2821834349)),(.k (.int .u32 2952996808)),(.k (.int .u32 3210313671)),(.k (.int .u32 3336571891)),(.k (.int .u32 3584528711)),(.k (.int .u32 113926993)),(.k (.int .u32 338241895)),(.k (.int .u32 666307205)),(.k (.int .u32 773529912)),(.k (.int .u32 1294757372)),(.k (.int .u32 1396182291)),(.k (.int .u32 1695183700)),(.k (.int .u32 1986661051)),(.k (.int .u32 2177026350)),(.k (.int .u32 2456956037)),(.k (.int .u32 2730485921)),(.k (.int .u32 2820302411)),(.k (.int .u32 3259730800)),(.k (.int .u32 3345764771)),(.k (.int .u32 3516065817)),(.k (.int .u32 3600352804)),(.k (.int .u32 4094571909)),(.k (.int .u32 275423344)),(.k (.int .u32 430227734)),(.k (.int .u32 506948616)),(.k (.int .u32 659060556)),(.k (.int .u32 883997877)),(.k (.int .u32 958139571)),(.k (.int .u32 1322822218)),(.k (.int .u32 1537002063)),(.k (.int .u32 1747873779)),(.k (.int .u32 1955562222)),(.k (.int .u32 2024104815)),(.k (.int .u32 2227730452)),(.k (.int .u32 2361852424)),(.k (.int .u32 2428436474)),(.k (.int .u32 2756734187)),(.k (.int .u32 3204031479)),(.k (.int .u32 3329325298))]) [] [])
theorem ET(K A:QV):QU (sU K A) ⟨fun _=>false,[],0,100⟩ 139 Tryz.f139 qz []=mV:=aa
theorem Es(w:World):RT 139 #[] w (.agg (ct.flatMap zV).toArray):=by
 refine b8 (C:=sU QW QW) (G:=⟨fun _=>false,[],0,100⟩) (args:=qz) (sh:=[]) (ρ:=[]) 100000 mV (fo _ _) Tryz.func139 rfl (cast aa (ET QW QW)) aa aa aa (fun _ _ _ _ _ h=>h.elim) ?_
 unfold mV
 exact QE (.agg (ct.flatMap zV).toArray) rfl
def OQ(f:FuncId)(xs:List SX.Arg)(v:Value):Prop:=f=138∧∃ (x:cm) (n:Nat),0<n∧n<32∧xs=[⟨aI x,0,[]⟩,⟨.int .i64 (n:Int),0,[]⟩]∧v=aI (aP x n)
def KR(f:FuncId)(xs:List SX.Arg)(v:Value):Prop:=f=137∧∃ (u:Value) (l:List W8),l.length=4∧xs=[⟨u,1,l.flatMap c8⟩]∧v=aI (uC (l.getD 0 0) (l.getD 1 0) (l.getD 2 0) (l.getD 3 0))
def KQ(f:FuncId)(xs:List SX.Arg)(v:Value):Prop:=f=139∧xs=[]∧v=.agg (ct.flatMap zV).toArray
noncomputable def OU(K A:QV):SX.Cx:={ P:=Tryz.prog,R:=fun _ f xs v=>OQ f xs v∨KR f xs v∨KQ f xs v,shp:=fun f=>if f∈[138,137]then some .one else if f=139 then some (.ag 64)else none,K:=K,A:=A,arr:=true,trm:=true }
theorem K3(K A:QV):(OU K A).Ok:=SX.Cx.b6 al fun _ f xs v W h hrd hK=>by
 rcases h with ⟨rfl,x,n,h0,hn,rfl,rfl⟩|⟨rfl,u,l,hl,rfl,rfl⟩|⟨rfl,rfl,rfl⟩
 ·exact(Hp x n h0 hn W).mono fun e w' h=>ay rfl h
 ·obtain⟨A,n,c,rfl,hr,hc,hn⟩:=cT (hrd ⟨u,1,l.flatMap c8⟩ (List.mem_singleton_self _))
  have e:l=[l.getD 0 0,l.getD 1 0,l.getD 2 0,l.getD 3 0]:=by rw [← KJ l ab,List.take_of_length_le ab]
  rw [e]at hr
  exact(EZ _ _ _ _ A n c W hr hc).mono fun e w' h=>ay rfl h
 exact(Es W).mono fun e w' h=>ay rfl h
theorem eW{C:SX.Cx}{ρ:List Value}{α:Nat→SX.AV}{s i i':SX.V}{A:Option Addr}{n c lo hi sz:Nat}(hs:s.den ρ α=.slice A n c)(h1:i.den ρ α=.int .i64 (lo:Int))(h2:i'.den ρ α=.int .i64 (hi:Int))(hl:lo≤hi)(hh:hi≤c):cZ.rel C ρ α (.slc false sz true true false) [s,i,i'] (bo A sz lo hi c):=by
 show oM _ _ _ _ _ _=_
 simp only [ah,hs,h1,h2,oM,jC,Option.bind_some,b7,iN]
 rw [if_pos ab]
 simp only [Option.bind_some,Int.toNat_natCast]
 rw [if_pos ab]
 simp [bo]
theorem Ov(x:cm):Jd (aI x)=some (aI (~~~x)):=by
 have h:(BitVec.ofInt 32 (x.toNat:Int))=x:=by apply BitVec.eq_of_toNat_eq;simp
 show some (Value.int .u32 (IntKind.u32.wrap ((BitVec.ofInt 32 (4294967295:Int)^^^BitVec.ofInt 32 (x.toNat:Int):BitVec 32).toNat:Int)))=_
 rw [h,wrap_u32]
 have e:(BitVec.ofInt 32 (4294967295:Int))^^^x= ~~~x:=by
  rw [show(BitVec.ofInt 32 (4294967295:Int))=BitVec.allOnes 32 from rfl,BitVec.allOnes_xor]
 rw [e,BitVec.ofNat_toNat,BitVec.setWidth_eq]
 rfl
theorem cW(l:List W8)(t:Nat)(h:4*t+4≤l.length):uC (((l.drop (4*t)).take 4).getD 0 0) (((l.drop (4*t)).take 4).getD 1 0) (((l.drop (4*t)).take 4).getD 2 0) (((l.drop (4*t)).take 4).getD 3 0)=au l t:=by
 rw [H5]
 unfold au
 simp only [List.getD_eq_getElem?_getD,List.getElem?_take,List.getElem?_drop]
 rfl
def oY:List SX.V:=[.a ((List.range 8).map fun j=>.x j []),.x 8 []]
def ll:SX.Tree :=
(.df (.slc false 1 true true false) [(.q 8),(.i 0),(.i 4)] .one
(.df (.call 137 [(.ext 1)]) [(.q 9)] .one
(.df (.slc false 1 true true false) [(.q 8),(.i 4),(.i 8)] .one
(.df (.call 137 [(.ext 1)]) [(.q 11)] .one
(.df (.slc false 1 true true false) [(.q 8),(.i 8),(.i 12)] .one
(.df (.call 137 [(.ext 1)]) [(.q 13)] .one
(.df (.slc false 1 true true false) [(.q 8),(.i 12),(.i 16)] .one
(.df (.call 137 [(.ext 1)]) [(.q 15)] .one
(.df (.slc false 1 true true false) [(.q 8),(.i 16),(.i 20)] .one
(.df (.call 137 [(.ext 1)]) [(.q 17)] .one
(.df (.slc false 1 true true false) [(.q 8),(.i 20),(.i 24)] .one
(.df (.call 137 [(.ext 1)]) [(.q 19)] .one
(.df (.slc false 1 true true false) [(.q 8),(.i 24),(.i 28)] .one
(.df (.call 137 [(.ext 1)]) [(.q 21)] .one
(.df (.slc false 1 true true false) [(.q 8),(.i 28),(.i 32)] .one
(.df (.call 137 [(.ext 1)]) [(.q 23)] .one
(.df (.slc false 1 true true false) [(.q 8),(.i 32),(.i 36)] .one
(.df (.call 137 [(.ext 1)]) [(.q 25)] .one
(.df (.slc false 1 true true false) [(.q 8),(.i 36),(.i 40)] .one
(.df (.call 137 [(.ext 1)]) [(.q 27)] .one
(.df (.slc false 1 true true false) [(.q 8),(.i 40),(.i 44)] .one
(.df (.call 137 [(.ext 1)]) [(.q 29)] .one
(.df (.slc false 1 true true false) [(.q 8),(.i 44),(.i 48)] .one
(.df (.call 137 [(.ext 1)]) [(.q 31)] .one
(.df (.slc false 1 true true false) [(.q 8),(.i 48),(.i 52)] .one
(.df (.call 137 [(.ext 1)]) [(.q 33)] .one
(.df (.slc false 1 true true false) [(.q 8),(.i 52),(.i 56)] .one
(.df (.call 137 [(.ext 1)]) [(.q 35)] .one
(.df (.slc false 1 true true false) [(.q 8),(.i 56),(.i 60)] .one
(.df (.call 137 [(.ext 1)]) [(.q 37)] .one
(.df (.slc false 1 true true false) [(.q 8),(.i 60),(.i 64)] .one
(.df (.call 137 [(.ext 1)]) [(.q 39)] .one
(.loop ([(.i 16),(.q 10),(.q 12),(.q 14),(.q 16),(.q 18),(.q 20),(.q 22),(.q 24),(.q 26),(.q 28),(.q 30),(.q 32),(.q 34),(.q 36),(.q 38),(.q 40)]++QL 48 (.k (.int .u32 0))) (QL 65 .one)
(.df (.bin .lss 3) [(.q 41),(.i 64)] .one
(.br 106 []
(.df (.bin .sub 3) [(.q 41),(.i 15)] .one
(.df .bnd [(.sl 2 0 64 64),(.q 107)] .one
(.df (.relem 1 0) [(.cat [(.a (QK 42 64))]),(.q 107)] .one
(.df (.bin .sub 3) [(.q 41),(.i 2)] .one
(.df .bnd [(.sl 2 0 64 64),(.q 110)] .one
(.df (.relem 1 0) [(.cat [(.a (QK 42 64))]),(.q 110)] .one
(.df (.bin .sub 3) [(.q 41),(.i 16)] .one
(.df .bnd [(.sl 2 0 64 64),(.q 113)] .one
(.df (.relem 1 0) [(.cat [(.a (QK 42 64))]),(.q 113)] .one
(.df (.call 138 [.no,.no]) [(.q 109),(.i 7)] .one
(.df (.call 138 [.no,.no]) [(.q 109),(.i 18)] .one
(.df (.bin .xor 136) [(.q 116),(.q 117)] .one
(.df (.bin .shr 136) [(.q 109),(.k (.int .u64 3))] .one
(.df (.bin .xor 136) [(.q 118),(.q 119)] .one
(.df (.bin .add 136) [(.q 115),(.q 120)] .one
(.df (.bin .sub 3) [(.q 41),(.i 7)] .one
(.df .bnd [(.sl 2 0 64 64),(.q 122)] .one
(.df (.relem 1 0) [(.cat [(.a (QK 42 64))]),(.q 122)] .one
(.df (.bin .add 136) [(.q 121),(.q 124)] .one
(.df (.call 138 [.no,.no]) [(.q 112),(.i 17)] .one
(.df (.call 138 [.no,.no]) [(.q 112),(.i 19)] .one
(.df (.bin .xor 136) [(.q 126),(.q 127)] .one
(.df (.bin .shr 136) [(.q 112),(.k (.int .u64 10))] .one
(.df (.bin .xor 136) [(.q 128),(.q 129)] .one
(.df (.bin .add 136) [(.q 125),(.q 130)] .one
(.df .bnd [(.sl 2 0 64 64),(.q 41)] .one
(.df (.rset 1 0) [(.cat [(.a (QK 42 64))]),(.q 41),(.q 131)] (.ag 64)
(.df (.bin .add 3) [(.q 41),(.i 1)] .one
(.again 0 ([(.q 134)]++QJ 133 0 64))))))))))))))))))))))))))))))
(.df (.call 139 []) [] (.ag 64)
(.loop ([(.i 0)]++QK 0 8) (QL 9 .one)
(.df (.bin .lss 3) [(.q 108),(.i 64)] .one
(.br 117 []
(.df (.call 138 [.no,.no]) [(.q 113),(.i 6)] .one
(.df (.call 138 [.no,.no]) [(.q 113),(.i 11)] .one
(.df (.bin .xor 136) [(.q 118),(.q 119)] .one
(.df (.call 138 [.no,.no]) [(.q 113),(.i 25)] .one
(.df (.bin .xor 136) [(.q 120),(.q 121)] .one
(.df (.bin .add 136) [(.q 116),(.q 122)] .one
(.df (.bin .and 136) [(.q 113),(.q 114)] .one
(.df .cpl [(.q 113)] .one
(.df (.bin .and 136) [(.q 125),(.q 115)] .one
(.df (.bin .xor 136) [(.q 124),(.q 126)] .one
(.df (.bin .add 136) [(.q 123),(.q 127)] .one
(.df .bnd [(.sl 68 0 64 64),(.q 108)] .one
(.df (.relem 1 0) [(.cat [(.a (QJ 107 0 64))]),(.q 108)] .one
(.df (.bin .add 136) [(.q 128),(.q 130)] .one
(.df .bnd [(.sl 2 0 64 64),(.q 108)] .one
(.df (.relem 1 0) [(.cat [(.a (QK 42 64))]),(.q 108)] .one
(.df (.bin .add 136) [(.q 131),(.q 133)] .one
(.df (.call 138 [.no,.no]) [(.q 109),(.i 2)] .one
(.df (.call 138 [.no,.no]) [(.q 109),(.i 13)] .one
(.df (.bin .xor 136) [(.q 135),(.q 136)] .one
(.df (.call 138 [.no,.no]) [(.q 109),(.i 22)] .one
(.df (.bin .xor 136) [(.q 137),(.q 138)] .one
(.df (.bin .and 136) [(.q 109),(.q 110)] .one
(.df (.bin .and 136) [(.q 109),(.q 111)] .one
(.df (.bin .xor 136) [(.q 140),(.q 141)] .one
(.df (.bin .and 136) [(.q 110),(.q 111)] .one
(.df (.bin .xor 136) [(.q 142),(.q 143)] .one
(.df (.bin .add 136) [(.q 139),(.q 144)] .one
(.df (.bin .add 136) [(.q 112),(.q 134)] .one
(.df (.bin .add 136) [(.q 134),(.q 145)] .one
(.df (.bin .add 3) [(.q 108),(.i 1)] .one
(.again 1 ([(.q 148),(.q 147)]++QK 109 3++[(.q 146)]++QK 113 3)))))))))))))))))))))))))))))))))
(.df (.bin .add 136) [(.q 0),(.q 109)] .one
(.df (.bin .add 136) [(.q 1),(.q 110)] .one
(.df (.bin .add 136) [(.q 2),(.q 111)] .one
(.df (.bin .add 136) [(.q 3),(.q 112)] .one
(.df (.bin .add 136) [(.q 4),(.q 113)] .one
(.df (.bin .add 136) [(.q 5),(.q 114)] .one
(.df (.bin .add 136) [(.q 6),(.q 115)] .one
(.df (.bin .add 136) [(.q 7),(.q 116)] .one
(.ret (.a (QK 118 8)) [] []))))))))))))))))))))))))))))))))))))))))))))))))
theorem Bk(K A:QV):QU (OU K A) ⟨fun _=>false,[⟨118,7,([(.s 7,.one)]++(List.range 64).map fun j=>(.c 12 j,.one))⟩,⟨118,7,([(.s 7,.one)]++(List.range 64).map fun j=>(.c 11 j,.one))⟩,⟨118,7,([(.s 7,.one)]++(List.range 64).map fun j=>(.c 10 j,.one))⟩,⟨118,7,([(.s 7,.one)]++(List.range 64).map fun j=>(.c 9 j,.one))⟩,⟨118,7,([(.s 7,.one)]++(List.range 64).map fun j=>(.c 8 j,.one))⟩,⟨118,7,([(.s 7,.one)]++(List.range 64).map fun j=>(.c 7 j,.one))⟩,⟨118,7,([(.s 7,.one)]++(List.range 64).map fun j=>(.c 6 j,.one))⟩,⟨118,7,([(.s 7,.one)]++(List.range 64).map fun j=>(.c 5 j,.one))⟩,⟨118,7,([(.s 7,.one)]++(List.range 64).map fun j=>(.c 4 j,.one))⟩,⟨118,7,([(.s 7,.one)]++(List.range 64).map fun j=>(.c 3 j,.one))⟩,⟨118,7,([(.s 7,.one)]++(List.range 64).map fun j=>(.c 2 j,.one))⟩,⟨118,7,([(.s 7,.one)]++(List.range 64).map fun j=>(.c 1 j,.one))⟩,⟨118,15,[(.s 19,.one),(.s 11,.one),(.s 12,.one),(.s 13,.one),(.s 14,.one),(.s 15,.one),(.s 16,.one),(.s 17,.one),(.s 18,.one)]⟩],0,100⟩ 118 Tryz.f118 oY (List.replicate 8 .one++[.any])=ll:=aa
theorem AP(s:S8)(l:List W8)(hl:l.length=64)(A:Option Addr)(n c:Nat)(w:World)(hr:Rd w 1 A n (l.flatMap c8))(hc:n≤c):RT 118 #[.agg s.cells.toArray,.slice A n c] w (.agg (bK s l).cells.toArray):=by
 obtain rfl:n=64:=by have:=hr.1;rw [SX.aL aQ]at this;omega
 refine b8 (C:=OU (mf A 64 c 1 (l.flatMap c8)) QW) (G:=⟨fun _=>false,[⟨118,7,([(.s 7,.one)]++(List.range 64).map fun j=>(.c 12 j,.one))⟩,⟨118,7,([(.s 7,.one)]++(List.range 64).map fun j=>(.c 11 j,.one))⟩,⟨118,7,([(.s 7,.one)]++(List.range 64).map fun j=>(.c 10 j,.one))⟩,⟨118,7,([(.s 7,.one)]++(List.range 64).map fun j=>(.c 9 j,.one))⟩,⟨118,7,([(.s 7,.one)]++(List.range 64).map fun j=>(.c 8 j,.one))⟩,⟨118,7,([(.s 7,.one)]++(List.range 64).map fun j=>(.c 7 j,.one))⟩,⟨118,7,([(.s 7,.one)]++(List.range 64).map fun j=>(.c 6 j,.one))⟩,⟨118,7,([(.s 7,.one)]++(List.range 64).map fun j=>(.c 5 j,.one))⟩,⟨118,7,([(.s 7,.one)]++(List.range 64).map fun j=>(.c 4 j,.one))⟩,⟨118,7,([(.s 7,.one)]++(List.range 64).map fun j=>(.c 3 j,.one))⟩,⟨118,7,([(.s 7,.one)]++(List.range 64).map fun j=>(.c 2 j,.one))⟩,⟨118,7,([(.s 7,.one)]++(List.range 64).map fun j=>(.c 1 j,.one))⟩,⟨118,15,[(.s 19,.one),(.s 11,.one),(.s 12,.one),(.s 13,.one),(.s 14,.one),(.s 15,.one),(.s 16,.one),(.s 17,.one),(.s 18,.one)]⟩],0,100⟩) (args:=oY) (sh:=(List.replicate 8 .one++[.any])) (ρ:=[aI s.a,aI s.b,aI s.c,aI s.d,aI s.e,aI s.f,aI s.g,aI s.h,.slice A 64 c]) 100000 ll (K3 _ _) Tryz.func118 rfl (cast aa (Bk (mf A 64 c 1 (l.flatMap c8)) QW)) aa aa aa (fun W hW s z xs h=>mf.rd (hr.aJ hW) h) ?_
 have part:∀ t,t<16→mf A 64 c 1 (l.flatMap c8) (bo A 1 (4*t) (4*t+4) c) 1 (((l.drop (4*t)).take 4).flatMap c8):=fun t ht=>by
  have:=mf.part aQ (A:=A) (n:=64) (c:=c) (L:=l) (l:=4*t) (h:=4*t+4) (m:=c) ab ab ab ab
  rwa [show 4*t+4-4*t=4 by omega]at this
 unfold ll
 refine QC (bo A 1 0 4 c) (fun α=>eW (n:=64) (lo:=0) (hi:=4) aa aa aa ab ab) ?_
 refine QC (aI (au l 0)) (fun α=>⟨[⟨bo A 1 0 4 c,1,((l.drop (4*0)).take 4).flatMap c8⟩],⟨aa,rfl,cast aa (part 0 ab),trivial⟩,.inr (.inl ⟨rfl,_,_,by rw [List.length_take,List.length_drop];omega,rfl,by rw [cW l 0 ab]⟩),ap rfl⟩) ?_
 refine QC (bo A 1 4 8 c) (fun α=>eW (n:=64) (lo:=4) (hi:=8) aa aa aa ab ab) ?_
 refine QC (aI (au l 1)) (fun α=>⟨[⟨bo A 1 4 8 c,1,((l.drop (4*1)).take 4).flatMap c8⟩],⟨aa,rfl,cast aa (part 1 ab),trivial⟩,.inr (.inl ⟨rfl,_,_,by rw [List.length_take,List.length_drop];omega,rfl,by rw [cW l 1 ab]⟩),ap rfl⟩) ?_
 refine QC (bo A 1 8 12 c) (fun α=>eW (n:=64) (lo:=8) (hi:=12) aa aa aa ab ab) ?_
 refine QC (aI (au l 2)) (fun α=>⟨[⟨bo A 1 8 12 c,1,((l.drop (4*2)).take 4).flatMap c8⟩],⟨aa,rfl,cast aa (part 2 ab),trivial⟩,.inr (.inl ⟨rfl,_,_,by rw [List.length_take,List.length_drop];omega,rfl,by rw [cW l 2 ab]⟩),ap rfl⟩) ?_
 refine QC (bo A 1 12 16 c) (fun α=>eW (n:=64) (lo:=12) (hi:=16) aa aa aa ab ab) ?_
 refine QC (aI (au l 3)) (fun α=>⟨[⟨bo A 1 12 16 c,1,((l.drop (4*3)).take 4).flatMap c8⟩],⟨aa,rfl,cast aa (part 3 ab),trivial⟩,.inr (.inl ⟨rfl,_,_,by rw [List.length_take,List.length_drop];omega,rfl,by rw [cW l 3 ab]⟩),ap rfl⟩) ?_
 refine QC (bo A 1 16 20 c) (fun α=>eW (n:=64) (lo:=16) (hi:=20) aa aa aa ab ab) ?_
 refine QC (aI (au l 4)) (fun α=>⟨[⟨bo A 1 16 20 c,1,((l.drop (4*4)).take 4).flatMap c8⟩],⟨aa,rfl,cast aa (part 4 ab),trivial⟩,.inr (.inl ⟨rfl,_,_,by rw [List.length_take,List.length_drop];omega,rfl,by rw [cW l 4 ab]⟩),ap rfl⟩) ?_
 refine QC (bo A 1 20 24 c) (fun α=>eW (n:=64) (lo:=20) (hi:=24) aa aa aa ab ab) ?_
 refine QC (aI (au l 5)) (fun α=>⟨[⟨bo A 1 20 24 c,1,((l.drop (4*5)).take 4).flatMap c8⟩],⟨aa,rfl,cast aa (part 5 ab),trivial⟩,.inr (.inl ⟨rfl,_,_,by rw [List.length_take,List.length_drop];omega,rfl,by rw [cW l 5 ab]⟩),ap rfl⟩) ?_
 refine QC (bo A 1 24 28 c) (fun α=>eW (n:=64) (lo:=24) (hi:=28) aa aa aa ab ab) ?_
 refine QC (aI (au l 6)) (fun α=>⟨[⟨bo A 1 24 28 c,1,((l.drop (4*6)).take 4).flatMap c8⟩],⟨aa,rfl,cast aa (part 6 ab),trivial⟩,.inr (.inl ⟨rfl,_,_,by rw [List.length_take,List.length_drop];omega,rfl,by rw [cW l 6 ab]⟩),ap rfl⟩) ?_
 refine QC (bo A 1 28 32 c) (fun α=>eW (n:=64) (lo:=28) (hi:=32) aa aa aa ab ab) ?_
 refine QC (aI (au l 7)) (fun α=>⟨[⟨bo A 1 28 32 c,1,((l.drop (4*7)).take 4).flatMap c8⟩],⟨aa,rfl,cast aa (part 7 ab),trivial⟩,.inr (.inl ⟨rfl,_,_,by rw [List.length_take,List.length_drop];omega,rfl,by rw [cW l 7 ab]⟩),ap rfl⟩) ?_
 refine QC (bo A 1 32 36 c) (fun α=>eW (n:=64) (lo:=32) (hi:=36) aa aa aa ab ab) ?_
 refine QC (aI (au l 8)) (fun α=>⟨[⟨bo A 1 32 36 c,1,((l.drop (4*8)).take 4).flatMap c8⟩],⟨aa,rfl,cast aa (part 8 ab),trivial⟩,.inr (.inl ⟨rfl,_,_,by rw [List.length_take,List.length_drop];omega,rfl,by rw [cW l 8 ab]⟩),ap rfl⟩) ?_
 refine QC (bo A 1 36 40 c) (fun α=>eW (n:=64) (lo:=36) (hi:=40) aa aa aa ab ab) ?_
 refine QC (aI (au l 9)) (fun α=>⟨[⟨bo A 1 36 40 c,1,((l.drop (4*9)).take 4).flatMap c8⟩],⟨aa,rfl,cast aa (part 9 ab),trivial⟩,.inr (.inl ⟨rfl,_,_,by rw [List.length_take,List.length_drop];omega,rfl,by rw [cW l 9 ab]⟩),ap rfl⟩) ?_
 refine QC (bo A 1 40 44 c) (fun α=>eW (n:=64) (lo:=40) (hi:=44) aa aa aa ab ab) ?_
 refine QC (aI (au l 10)) (fun α=>⟨[⟨bo A 1 40 44 c,1,((l.drop (4*10)).take 4).flatMap c8⟩],⟨aa,rfl,cast aa (part 10 ab),trivial⟩,.inr (.inl ⟨rfl,_,_,by rw [List.length_take,List.length_drop];omega,rfl,by rw [cW l 10 ab]⟩),ap rfl⟩) ?_
 refine QC (bo A 1 44 48 c) (fun α=>eW (n:=64) (lo:=44) (hi:=48) aa aa aa ab ab) ?_
 refine QC (aI (au l 11)) (fun α=>⟨[⟨bo A 1 44 48 c,1,((l.drop (4*11)).take 4).flatMap c8⟩],⟨aa,rfl,cast aa (part 11 ab),trivial⟩,.inr (.inl ⟨rfl,_,_,by rw [List.length_take,List.length_drop];omega,rfl,by rw [cW l 11 ab]⟩),ap rfl⟩) ?_
 refine QC (bo A 1 48 52 c) (fun α=>eW (n:=64) (lo:=48) (hi:=52) aa aa aa ab ab) ?_
 refine QC (aI (au l 12)) (fun α=>⟨[⟨bo A 1 48 52 c,1,((l.drop (4*12)).take 4).flatMap c8⟩],⟨aa,rfl,cast aa (part 12 ab),trivial⟩,.inr (.inl ⟨rfl,_,_,by rw [List.length_take,List.length_drop];omega,rfl,by rw [cW l 12 ab]⟩),ap rfl⟩) ?_
 refine QC (bo A 1 52 56 c) (fun α=>eW (n:=64) (lo:=52) (hi:=56) aa aa aa ab ab) ?_
 refine QC (aI (au l 13)) (fun α=>⟨[⟨bo A 1 52 56 c,1,((l.drop (4*13)).take 4).flatMap c8⟩],⟨aa,rfl,cast aa (part 13 ab),trivial⟩,.inr (.inl ⟨rfl,_,_,by rw [List.length_take,List.length_drop];omega,rfl,by rw [cW l 13 ab]⟩),ap rfl⟩) ?_
 refine QC (bo A 1 56 60 c) (fun α=>eW (n:=64) (lo:=56) (hi:=60) aa aa aa ab ab) ?_
 refine QC (aI (au l 14)) (fun α=>⟨[⟨bo A 1 56 60 c,1,((l.drop (4*14)).take 4).flatMap c8⟩],⟨aa,rfl,cast aa (part 14 ab),trivial⟩,.inr (.inl ⟨rfl,_,_,by rw [List.length_take,List.length_drop];omega,rfl,by rw [cW l 14 ab]⟩),ap rfl⟩) ?_
 refine QC (bo A 1 60 64 c) (fun α=>eW (n:=64) (lo:=60) (hi:=64) aa aa aa ab ab) ?_
 refine QC (aI (au l 15)) (fun α=>⟨[⟨bo A 1 60 64 c,1,((l.drop (4*15)).take 4).flatMap c8⟩],⟨aa,rfl,cast aa (part 15 ab),trivial⟩,.inr (.inl ⟨rfl,_,_,by rw [List.length_take,List.length_drop];omega,rfl,by rw [cW l 15 ab]⟩),ap rfl⟩) ?_
 refine ck (fun xs=>∃ k:Nat,xs=.int .i64 ((16+k:Nat):Int)::(av l k).map aI∧k≤48) (fun xs=>match xs with|.int _ i::_=>64-i.toNat|_=>0) (fun α=>⟨0,Eq.trans (b:=.int .i64 16::([au l 0,au l 1,au l 2,au l 3,au l 4,au l 5,au l 6,au l 7,au l 8,au l 9,au l 10,au l 11,au l 12,au l 13,au l 14,au l 15,0,0,0,0,0,0,0,0,0,0,0,0,0,0,0,0,0,0,0,0,0,0,0,0,0,0,0,0,0,0,0,0,0,0,0,0,0,0,0,0,0,0,0,0,0,0,0,0]:List cm).map aI) aa (by rfl),ab⟩) ?_
 rintro xs-⟨k,rfl,hk⟩
 obtain⟨g,hu⟩:=GC (av l k) (fI l k)
 have hL:=fI l k
 rw [hu]
 refine QB (.bool (decide (((16+k:Nat):Int)<64))) ?_
 refine QD (decide (((16+k:Nat):Int)<64)) (fun hlt=>?_) (fun hge=>?_)
 ·have hk2:k<48:=by simp only [decide_eq_true_eq]at hlt;omega
  refine QF (.int .i64 ((16+k-15:Nat):Int)) (pg (a:=16+k) (b:=15) (d:=16+k-15) ab ab) ?_
  refine QC (.bool true) (fun α=>cq (A:=some ⟨(α 2).b,0,none⟩) (n:=64) (c:=64) (j:=(16+k-15)) al rfl aa ab) ?_
  refine QC (aI ((av l k).getD (16+k-15) 0)) (fun α=>iC (u:=(av l k)) (k:=(16+k-15)) (by rw [hu];kernel_rfl) aa (by rw [hL];omega)) ?_
  refine QF (.int .i64 ((16+k-2:Nat):Int)) (pg (a:=16+k) (b:=2) (d:=16+k-2) ab ab) ?_
  refine QC (.bool true) (fun α=>cq (A:=some ⟨(α 2).b,0,none⟩) (n:=64) (c:=64) (j:=(16+k-2)) al rfl aa ab) ?_
  refine QC (aI ((av l k).getD (16+k-2) 0)) (fun α=>iC (u:=(av l k)) (k:=(16+k-2)) (by rw [hu];kernel_rfl) aa (by rw [hL];omega)) ?_
  refine QF (.int .i64 ((16+k-16:Nat):Int)) (pg (a:=16+k) (b:=16) (d:=16+k-16) ab ab) ?_
  refine QC (.bool true) (fun α=>cq (A:=some ⟨(α 2).b,0,none⟩) (n:=64) (c:=64) (j:=(16+k-16)) al rfl aa ab) ?_
  refine QC (aI ((av l k).getD (16+k-16) 0)) (fun α=>iC (u:=(av l k)) (k:=(16+k-16)) (by rw [hu];kernel_rfl) aa (by rw [hL];omega)) ?_
  refine QC (aI (aP ((av l k).getD (16+k-15) 0) 7)) (fun α=>⟨[⟨aI ((av l k).getD (16+k-15) 0),0,[]⟩,⟨.int .i64 7,0,[]⟩],QQ,.inl ⟨rfl,((av l k).getD (16+k-15) 0),7,ab,ab,rfl,rfl⟩,ap rfl⟩) ?_
  refine QC (aI (aP ((av l k).getD (16+k-15) 0) 18)) (fun α=>⟨[⟨aI ((av l k).getD (16+k-15) 0),0,[]⟩,⟨.int .i64 18,0,[]⟩],QQ,.inl ⟨rfl,((av l k).getD (16+k-15) 0),18,ab,ab,rfl,rfl⟩,ap rfl⟩) ?_
  refine QF (aI ((aP ((av l k).getD (16+k-15) 0) 7)^^^(aP ((av l k).getD (16+k-15) 0) 18))) (fR (aP ((av l k).getD (16+k-15) 0) 7) (aP ((av l k).getD (16+k-15) 0) 18)) ?_
  refine QF (aI (((av l k).getD (16+k-15) 0)>>>3)) (sN ((av l k).getD (16+k-15) 0) .u64 3 ab) ?_
  refine QF (aI (((aP ((av l k).getD (16+k-15) 0) 7)^^^(aP ((av l k).getD (16+k-15) 0) 18))^^^(((av l k).getD (16+k-15) 0)>>>3))) (fR ((aP ((av l k).getD (16+k-15) 0) 7)^^^(aP ((av l k).getD (16+k-15) 0) 18)) (((av l k).getD (16+k-15) 0)>>>3)) ?_
  refine QF (aI (((av l k).getD (16+k-16) 0)+(((aP ((av l k).getD (16+k-15) 0) 7)^^^(aP ((av l k).getD (16+k-15) 0) 18))^^^(((av l k).getD (16+k-15) 0)>>>3)))) (cI ((av l k).getD (16+k-16) 0) (((aP ((av l k).getD (16+k-15) 0) 7)^^^(aP ((av l k).getD (16+k-15) 0) 18))^^^(((av l k).getD (16+k-15) 0)>>>3))) ?_
  refine QF (.int .i64 ((16+k-7:Nat):Int)) (pg (a:=16+k) (b:=7) (d:=16+k-7) ab ab) ?_
  refine QC (.bool true) (fun α=>cq (A:=some ⟨(α 2).b,0,none⟩) (n:=64) (c:=64) (j:=(16+k-7)) al rfl aa ab) ?_
  refine QC (aI ((av l k).getD (16+k-7) 0)) (fun α=>iC (u:=(av l k)) (k:=(16+k-7)) (by rw [hu];kernel_rfl) aa (by rw [hL];omega)) ?_
  refine QF (aI ((((av l k).getD (16+k-16) 0)+(((aP ((av l k).getD (16+k-15) 0) 7)^^^(aP ((av l k).getD (16+k-15) 0) 18))^^^(((av l k).getD (16+k-15) 0)>>>3)))+((av l k).getD (16+k-7) 0))) (cI (((av l k).getD (16+k-16) 0)+(((aP ((av l k).getD (16+k-15) 0) 7)^^^(aP ((av l k).getD (16+k-15) 0) 18))^^^(((av l k).getD (16+k-15) 0)>>>3))) ((av l k).getD (16+k-7) 0)) ?_
  refine QC (aI (aP ((av l k).getD (16+k-2) 0) 17)) (fun α=>⟨[⟨aI ((av l k).getD (16+k-2) 0),0,[]⟩,⟨.int .i64 17,0,[]⟩],QQ,.inl ⟨rfl,((av l k).getD (16+k-2) 0),17,ab,ab,rfl,rfl⟩,ap rfl⟩) ?_
  refine QC (aI (aP ((av l k).getD (16+k-2) 0) 19)) (fun α=>⟨[⟨aI ((av l k).getD (16+k-2) 0),0,[]⟩,⟨.int .i64 19,0,[]⟩],QQ,.inl ⟨rfl,((av l k).getD (16+k-2) 0),19,ab,ab,rfl,rfl⟩,ap rfl⟩) ?_
  refine QF (aI ((aP ((av l k).getD (16+k-2) 0) 17)^^^(aP ((av l k).getD (16+k-2) 0) 19))) (fR (aP ((av l k).getD (16+k-2) 0) 17) (aP ((av l k).getD (16+k-2) 0) 19)) ?_
  refine QF (aI (((av l k).getD (16+k-2) 0)>>>10)) (sN ((av l k).getD (16+k-2) 0) .u64 10 ab) ?_
  refine QF (aI (((aP ((av l k).getD (16+k-2) 0) 17)^^^(aP ((av l k).getD (16+k-2) 0) 19))^^^(((av l k).getD (16+k-2) 0)>>>10))) (fR ((aP ((av l k).getD (16+k-2) 0) 17)^^^(aP ((av l k).getD (16+k-2) 0) 19)) (((av l k).getD (16+k-2) 0)>>>10)) ?_
  refine QF (aI (((((av l k).getD (16+k-16) 0)+(((aP ((av l k).getD (16+k-15) 0) 7)^^^(aP ((av l k).getD (16+k-15) 0) 18))^^^(((av l k).getD (16+k-15) 0)>>>3)))+((av l k).getD (16+k-7) 0))+(((aP ((av l k).getD (16+k-2) 0) 17)^^^(aP ((av l k).getD (16+k-2) 0) 19))^^^(((av l k).getD (16+k-2) 0)>>>10)))) (cI ((((av l k).getD (16+k-16) 0)+(((aP ((av l k).getD (16+k-15) 0) 7)^^^(aP ((av l k).getD (16+k-15) 0) 18))^^^(((av l k).getD (16+k-15) 0)>>>3)))+((av l k).getD (16+k-7) 0)) (((aP ((av l k).getD (16+k-2) 0) 17)^^^(aP ((av l k).getD (16+k-2) 0) 19))^^^(((av l k).getD (16+k-2) 0)>>>10))) ?_
  refine QC (.bool true) (fun α=>cq (A:=some ⟨(α 2).b,0,none⟩) (n:=64) (c:=64) (j:=(16+k)) al rfl aa ab) ?_
  refine aO (.agg (((av l k).set (16+k) (ui (av l k) (16+k))).map aI).toArray) (fun α=>by rw [← Ep];exact KH (u:=(av l k)) (k:=16+k) (y:=A5 (av l k) (16+k)) (by rw [hu];kernel_rfl) aa aa (by rw [hL];omega)) (Nl _ (by simp [fI])) ?_
  refine QF (.int .i64 ((16+(k+1):Nat):Int)) (B7 (a:=16+k) (b:=1) (d:=16+(k+1)) ab ab) ?_
  exact bW rfl (fun α=>⟨k+1,tq (v0:=.x 134 []) (m:=133) (N:=64) aa aa aa (by simp [fI]),ab⟩) (fun α=>cast aa (show 64-(16+(k+1))<64-(16+k) by omega))
 obtain rfl:k=48:=by simp only [decide_eq_false_iff_not]at hge;omega
 refine QC (.agg (ct.flatMap zV).toArray) (fun α=>⟨[],trivial,.inr (.inr ⟨rfl,rfl,rfl⟩),ap rfl⟩) ?_
 refine ck (fun xs=>∃ j:Nat,xs=.int .i64 (j:Int)::(wz (av l 48) s j).cells∧j≤64) (fun xs=>match xs with|.int _ i::_=>64-i.toNat|_=>0) (fun α=>⟨0,aa,ab⟩) ?_
 rintro xs-⟨j,rfl,hj⟩
 generalize hv:wz (av l 48) s j=v
 refine QB (.bool (decide ((j:Int)<64))) ?_
 refine QD (decide ((j:Int)<64)) (fun hlt=>?_) (fun hge=>?_)
 ·have hj2:j<64:=by simp only [decide_eq_true_eq]at hlt;omega
  obtain⟨kn,hkn2⟩:∃ z,ct.getD j 0=z:=⟨_,rfl⟩
  refine QC (aI (aP v.e 6)) (fun α=>⟨[⟨aI v.e,0,[]⟩,⟨.int .i64 6,0,[]⟩],QQ,.inl ⟨rfl,v.e,6,ab,ab,rfl,rfl⟩,ap rfl⟩) ?_
  refine QC (aI (aP v.e 11)) (fun α=>⟨[⟨aI v.e,0,[]⟩,⟨.int .i64 11,0,[]⟩],QQ,.inl ⟨rfl,v.e,11,ab,ab,rfl,rfl⟩,ap rfl⟩) ?_
  refine QF (aI ((aP v.e 6)^^^(aP v.e 11))) (fR (aP v.e 6) (aP v.e 11)) ?_
  refine QC (aI (aP v.e 25)) (fun α=>⟨[⟨aI v.e,0,[]⟩,⟨.int .i64 25,0,[]⟩],QQ,.inl ⟨rfl,v.e,25,ab,ab,rfl,rfl⟩,ap rfl⟩) ?_
  refine QF (aI (((aP v.e 6)^^^(aP v.e 11))^^^(aP v.e 25))) (fR ((aP v.e 6)^^^(aP v.e 11)) (aP v.e 25)) ?_
  refine QF (aI (v.h+(((aP v.e 6)^^^(aP v.e 11))^^^(aP v.e 25)))) (cI v.h (((aP v.e 6)^^^(aP v.e 11))^^^(aP v.e 25))) ?_
  refine QF (aI (v.e&&&v.f)) (pO v.e v.f) ?_
  refine QF (aI (~~~v.e)) (Ov v.e) ?_
  refine QF (aI ((~~~v.e)&&&v.g)) (pO (~~~v.e) v.g) ?_
  refine QF (aI ((v.e&&&v.f)^^^((~~~v.e)&&&v.g))) (fR (v.e&&&v.f) ((~~~v.e)&&&v.g)) ?_
  refine QF (aI ((v.h+(((aP v.e 6)^^^(aP v.e 11))^^^(aP v.e 25)))+((v.e&&&v.f)^^^((~~~v.e)&&&v.g)))) (cI (v.h+(((aP v.e 6)^^^(aP v.e 11))^^^(aP v.e 25))) ((v.e&&&v.f)^^^((~~~v.e)&&&v.g))) ?_
  refine QC (.bool true) (fun α=>cq (A:=some ⟨(α 68).b,0,none⟩) (n:=64) (c:=64) (j:=j) al rfl aa ab) ?_
  refine QC (aI kn) (fun α=>by rw [← hkn2];exact iC (u:=ct) (k:=j) aa aa hj2) ?_
  refine QF (aI (((v.h+(((aP v.e 6)^^^(aP v.e 11))^^^(aP v.e 25)))+((v.e&&&v.f)^^^((~~~v.e)&&&v.g)))+kn)) (cI ((v.h+(((aP v.e 6)^^^(aP v.e 11))^^^(aP v.e 25)))+((v.e&&&v.f)^^^((~~~v.e)&&&v.g))) kn) ?_
  refine QC (.bool true) (fun α=>cq (A:=some ⟨(α 2).b,0,none⟩) (n:=64) (c:=64) (j:=j) al rfl aa ab) ?_
  refine QC (aI ((av l 48).getD j 0)) (fun α=>iC (u:=(av l 48)) (k:=j) (by rw [hu];kernel_rfl) aa (by rw [hL];omega)) ?_
  refine QF (aI ((((v.h+(((aP v.e 6)^^^(aP v.e 11))^^^(aP v.e 25)))+((v.e&&&v.f)^^^((~~~v.e)&&&v.g)))+kn)+((av l 48).getD j 0))) (cI (((v.h+(((aP v.e 6)^^^(aP v.e 11))^^^(aP v.e 25)))+((v.e&&&v.f)^^^((~~~v.e)&&&v.g)))+kn) ((av l 48).getD j 0)) ?_
  refine QC (aI (aP v.a 2)) (fun α=>⟨[⟨aI v.a,0,[]⟩,⟨.int .i64 2,0,[]⟩],QQ,.inl ⟨rfl,v.a,2,ab,ab,rfl,rfl⟩,ap rfl⟩) ?_
  refine QC (aI (aP v.a 13)) (fun α=>⟨[⟨aI v.a,0,[]⟩,⟨.int .i64 13,0,[]⟩],QQ,.inl ⟨rfl,v.a,13,ab,ab,rfl,rfl⟩,ap rfl⟩) ?_
  refine QF (aI ((aP v.a 2)^^^(aP v.a 13))) (fR (aP v.a 2) (aP v.a 13)) ?_
  refine QC (aI (aP v.a 22)) (fun α=>⟨[⟨aI v.a,0,[]⟩,⟨.int .i64 22,0,[]⟩],QQ,.inl ⟨rfl,v.a,22,ab,ab,rfl,rfl⟩,ap rfl⟩) ?_
  refine QF (aI (((aP v.a 2)^^^(aP v.a 13))^^^(aP v.a 22))) (fR ((aP v.a 2)^^^(aP v.a 13)) (aP v.a 22)) ?_
  refine QF (aI (v.a&&&v.b)) (pO v.a v.b) ?_
  refine QF (aI (v.a&&&v.c)) (pO v.a v.c) ?_
  refine QF (aI ((v.a&&&v.b)^^^(v.a&&&v.c))) (fR (v.a&&&v.b) (v.a&&&v.c)) ?_
  refine QF (aI (v.b&&&v.c)) (pO v.b v.c) ?_
  refine QF (aI (((v.a&&&v.b)^^^(v.a&&&v.c))^^^(v.b&&&v.c))) (fR ((v.a&&&v.b)^^^(v.a&&&v.c)) (v.b&&&v.c)) ?_
  refine QF (aI ((((aP v.a 2)^^^(aP v.a 13))^^^(aP v.a 22))+(((v.a&&&v.b)^^^(v.a&&&v.c))^^^(v.b&&&v.c)))) (cI (((aP v.a 2)^^^(aP v.a 13))^^^(aP v.a 22)) (((v.a&&&v.b)^^^(v.a&&&v.c))^^^(v.b&&&v.c))) ?_
  refine QF (aI (v.d+((((v.h+(((aP v.e 6)^^^(aP v.e 11))^^^(aP v.e 25)))+((v.e&&&v.f)^^^((~~~v.e)&&&v.g)))+kn)+((av l 48).getD j 0)))) (cI v.d ((((v.h+(((aP v.e 6)^^^(aP v.e 11))^^^(aP v.e 25)))+((v.e&&&v.f)^^^((~~~v.e)&&&v.g)))+kn)+((av l 48).getD j 0))) ?_
  refine QF (aI (((((v.h+(((aP v.e 6)^^^(aP v.e 11))^^^(aP v.e 25)))+((v.e&&&v.f)^^^((~~~v.e)&&&v.g)))+kn)+((av l 48).getD j 0))+((((aP v.a 2)^^^(aP v.a 13))^^^(aP v.a 22))+(((v.a&&&v.b)^^^(v.a&&&v.c))^^^(v.b&&&v.c))))) (cI ((((v.h+(((aP v.e 6)^^^(aP v.e 11))^^^(aP v.e 25)))+((v.e&&&v.f)^^^((~~~v.e)&&&v.g)))+kn)+((av l 48).getD j 0)) ((((aP v.a 2)^^^(aP v.a 13))^^^(aP v.a 22))+(((v.a&&&v.b)^^^(v.a&&&v.c))^^^(v.b&&&v.c)))) ?_
  refine QF (.int .i64 ((j+1:Nat):Int)) (B7 (a:=j) (b:=1) (d:=j+1) rfl ab) ?_
  exact bW rfl (fun α=>⟨j+1,Eq.trans (b:=.int .i64 ((j+1:Nat):Int)::(S8.cells ⟨v.rp kn ((av l 48).getD j 0)+v.rq,v.a,v.b,v.c,v.d+v.rp kn ((av l 48).getD j 0),v.e,v.f,v.g⟩)) aa (by rw [← JZ,ux hv hkn2]),ab⟩) (fun α=>cast aa (show 64-(j+1)<64-j by omega))
 obtain rfl:j=64:=by simp only [decide_eq_false_iff_not]at hge;omega
 refine QF (aI (s.a+v.a)) (cI s.a v.a) ?_
 refine QF (aI (s.b+v.b)) (cI s.b v.b) ?_
 refine QF (aI (s.c+v.c)) (cI s.c v.c) ?_
 refine QF (aI (s.d+v.d)) (cI s.d v.d) ?_
 refine QF (aI (s.e+v.e)) (cI s.e v.e) ?_
 refine QF (aI (s.f+v.f)) (cI s.f v.f) ?_
 refine QF (aI (s.g+v.g)) (cI s.g v.g) ?_
 refine QF (aI (s.h+v.h)) (cI s.h v.h) ?_
 exact QE (.agg (S8.cells ⟨s.a+v.a,s.b+v.b,s.c+v.c,s.d+v.d,s.e+v.e,s.f+v.f,s.g+v.g,s.h+v.h⟩).toArray) (by rw [qt hv])
noncomputable def OW(K A:QV):SX.Cx:={ P:=Tryz.prog,R:=fun _ f xs v=>False,shp:=fun f=>none,K:=K,A:=A,arr:=true,trm:=true }
theorem K9(K A:QV):(OW K A).Ok:=SX.Cx.b6 al fun _ f xs v W h=>h.elim
def tz:List SX.V:=[.x 0 []]
def oS:SX.Tree :=
(.df (.dN 1 1 (.ext 1)) [(.cat []),(.q 0)] .any
(.df (.dN 1 1 (.own 1 [(.k (.int .u8 128))])) [(.cat [(.q 1)]),(.sl 2 0 1 1)] .any
(.loop [(.cat [(.q 1),(.q 2)])] [.any]
(.df (.rlen 1) [(.cat [(.q 3)])] .one
(.df (.bin .rem 3) [(.q 4),(.i 64)] .one
(.df (.bin .neq 3) [(.q 5),(.i 56)] .one
(.br 6 []
(.df (.dN 1 1 (.own 1 [(.k (.int .u8 0))])) [(.cat [(.q 3)]),(.sl 5 0 1 1)] .any
(.again 0 [(.cat [(.q 3),(.q 7)])]))
(.df (.len false) [(.q 0)] .one
(.df (.conv .u64) [(.q 7)] .one
(.df (.bin .mul 140) [(.q 8),(.k (.int .u64 8))] .one
(.df (.bin .shr 140) [(.q 9),(.i 56)] .one
(.df (.conv .u8) [(.q 10)] .one
(.df (.dN 1 1 (.own 1 [(.q 11)])) [(.cat [(.q 3)]),(.sl 5 0 1 1)] .any
(.df (.bin .shr 140) [(.q 9),(.i 48)] .one
(.df (.conv .u8) [(.q 13)] .one
(.df (.dN 1 1 (.own 1 [(.q 14)])) [(.cat [(.q 3),(.q 12)]),(.sl 7 0 1 1)] .any
(.df (.bin .shr 140) [(.q 9),(.i 40)] .one
(.df (.conv .u8) [(.q 16)] .one
(.df (.dN 1 1 (.own 1 [(.q 17)])) [(.cat [(.q 3),(.q 12),(.q 15)]),(.sl 9 0 1 1)] .any
(.df (.bin .shr 140) [(.q 9),(.i 32)] .one
(.df (.conv .u8) [(.q 19)] .one
(.df (.dN 1 1 (.own 1 [(.q 20)])) [(.cat [(.q 3),(.q 12),(.q 15),(.q 18)]),(.sl 11 0 1 1)] .any
(.df (.bin .shr 140) [(.q 9),(.i 24)] .one
(.df (.conv .u8) [(.q 22)] .one
(.df (.dN 1 1 (.own 1 [(.q 23)])) [(.cat [(.q 3),(.q 12),(.q 15),(.q 18),(.q 21)]),(.sl 13 0 1 1)] .any
(.df (.bin .shr 140) [(.q 9),(.i 16)] .one
(.df (.conv .u8) [(.q 25)] .one
(.df (.dN 1 1 (.own 1 [(.q 26)])) [(.cat [(.q 3),(.q 12),(.q 15),(.q 18),(.q 21),(.q 24)]),(.sl 15 0 1 1)] .any
(.df (.bin .shr 140) [(.q 9),(.i 8)] .one
(.df (.conv .u8) [(.q 28)] .one
(.df (.dN 1 1 (.own 1 [(.q 29)])) [(.cat [(.q 3),(.q 12),(.q 15),(.q 18),(.q 21),(.q 24),(.q 27)]),(.sl 17 0 1 1)] .any
(.df (.bin .shr 140) [(.q 9),(.i 0)] .one
(.df (.conv .u8) [(.q 31)] .one
(.df (.dN 1 1 (.own 1 [(.q 32)])) [(.cat [(.q 3),(.q 12),(.q 15),(.q 18),(.q 21),(.q 24),(.q 27),(.q 30)]),(.sl 19 0 1 1)] .any
(.ret (.row 20) (List.replicate 20 none++[(some ⟨[(.q 3),(.q 12),(.q 15),(.q 18),(.q 21),(.q 24),(.q 27),(.q 30),(.q 33)],5,(.row 1)⟩)]) [])))))))))))))))))))))))))))))))))))
theorem HQ(K A:QV):QU (OW K A) ⟨fun _=>false,[⟨117,2,[(.s 3,.row 1 5)]⟩],2,100⟩ 117 Tryz.f117 tz [.any]=oS:=aa
theorem JK(a b:Nat):aZ .neq (.int .i64 (a:Int)) (.int .i64 (b:Int))=some (.bool (decide (a≠b))):=by
 simp only [aZ,om,if_true]
 congr 2
 by_cases h:a=b
 ·subst h;simp
 have:(a:Int)≠(b:Int):=ab
 simp [h,this]
theorem Ho(l:List W8)(hl:l.length<2 ^ 45)(A:Option Addr)(n c:Nat)(w:World)(hr:Rd w 1 A n (l.flatMap c8))(hc:n≤c):RS 117 #[.slice A n c] w 1 ((pS l).flatMap c8):=by
 have hln:l.length=n:=by have:=hr.1;rw [SX.aL aQ]at this;omega
 refine b8 (C:=OW (fun v z xs=>v=.slice A n c∧z=1∧xs=l.flatMap c8) QW) (G:=⟨fun _=>false,[⟨117,2,[(.s 3,.row 1 5)]⟩],2,100⟩) (args:=tz) (sh:=[.any]) (ρ:=[.slice A n c]) 100000 oS (K9 _ _) Tryz.func117 rfl (cast aa (HQ (fun v z xs=>v=.slice A n c∧z=1∧xs=l.flatMap c8) QW)) aa aa aa (fun W hW v z xs ⟨h1,h2,h3⟩=>by subst h1;subst h2;subst h3;exact⟨hr.aJ hW,hc⟩) ?_
 have one:∀ a,∀ u∈c8 a,u.oneCell'=true:=fun a u hu=>by
  obtain rfl:u=w8 a:=by simpa [c8]using hu
  rfl
 have hpad:kS n<64:=by unfold kS;omega
 have hpad2:(n+1+kS n) % 64=56:=by unfold kS;omega
 unfold oS
 refine QC (.agg (l.flatMap c8).toArray) (fun α=>az aQ one ab (l1:=[]) (l2:=l) aa (nS ⟨rfl,rfl,rfl⟩) aw aw) ?_
 refine QC (.agg ([128].flatMap c8).toArray) (fun α=>az aQ one ab (l1:=l) (l2:=[128]) (bz aa) (aS aa) aw aw) ?_
 refine ck (fun xs=>∃ k:Nat,xs=[.agg ((l++[128]++List.replicate k 0).flatMap c8).toArray]∧k≤kS n) (fun xs=>match xs with|.agg cs::_=>n+1+kS n-cs.toList.length|_=>0) (fun α=>⟨0,Eq.trans (b:=[.agg (l.flatMap c8++([128].flatMap c8++[])).toArray]) aa (by rw [List.append_nil,List.replicate_zero,List.append_nil,List.flatMap_append]),ab⟩) ?_
 rintro xs-⟨k,rfl,hk⟩
 obtain⟨r,hr0⟩:∃ r,r=l++[128]++List.replicate k 0:=⟨_,rfl⟩
 have hrl:r.length=n+1+k:=by rw [hr0];simp;omega
 rw [← hr0]
 refine QC (.int .i64 (r.length:Int)) (fun α=>k8 (bz (j:=3) aa)) ?_
 refine QF (.int .i64 ((r.length % 64:Nat):Int)) (wu (a:=r.length) (b:=64) ab) ?_
 refine QF (.bool (decide (r.length % 64≠56))) (JK (r.length % 64) 56) ?_
 refine QD (decide (r.length % 64≠56)) (fun h56=>?_) (fun h56=>?_)
 ·have h56:r.length % 64≠56:=af h56
  have hk2:k<kS n:=by
   rcases Nat.lt_or_ge k (kS n)with h|h;· exact h
   exfalso;apply h56;rw [hrl,show k=kS n by omega];exact hpad2
  refine QC (.agg ([0].flatMap c8).toArray) (fun α=>az aQ one ab (l1:=r) (l2:=[0]) (bz aa) (aS aa) aw aw) ?_
  exact bW rfl (fun α=>⟨k+1,Eq.trans (b:=[.agg (r.flatMap c8++([0].flatMap c8++[])).toArray]) aa (by rw [List.append_nil,← List.flatMap_append,hr0,List.append_assoc _ _ [0],← List.replicate_succ']),ab⟩) (fun α=>cast aa (show n+1+kS n-(r.flatMap c8++([0].flatMap c8++[])).length<n+1+kS n-(r.flatMap c8).length by rw [List.append_nil,List.length_append,SX.aL aQ,SX.aL aQ];simp only [LL];omega))
 have h56:r.length % 64=56:=af h56
 have hk2:k=kS n:=ab
 refine QB (.int .i64 (n:Int)) ?_
 refine QF (.int .u64 (n:Int)) (wO n .i64 ab) ?_
 refine QF (.int .u64 ((8*n:Nat):Int)) (BD n ab) ?_
 refine P8 (8*n) 56 ?_
 refine QC (.agg ([ax (8*n) 56].flatMap c8).toArray) (fun α=>az aQ one ab (l1:=r) (l2:=[ax (8*n) 56]) (bz (j:=3) aa) (aS aa) aw aw) ?_
 refine P8 (8*n) 48 ?_
 refine QC (.agg ([ax (8*n) 48].flatMap c8).toArray) (fun α=>az aQ one ab (l1:=(r++[ax (8*n) 56])) (l2:=[ax (8*n) 48]) (Eq.trans (b:=r.flatMap c8++[ax (8*n) 56].flatMap c8) aa (by rw [← List.flatMap_append])) (aS aa) aw aw) ?_
 refine P8 (8*n) 40 ?_
 refine QC (.agg ([ax (8*n) 40].flatMap c8).toArray) (fun α=>az aQ one ab (l1:=(r++[ax (8*n) 56,ax (8*n) 48])) (l2:=[ax (8*n) 40]) (Eq.trans (b:=r.flatMap c8++[ax (8*n) 56,ax (8*n) 48].flatMap c8) aa (by rw [← List.flatMap_append])) (aS aa) aw aw) ?_
 refine P8 (8*n) 32 ?_
 refine QC (.agg ([ax (8*n) 32].flatMap c8).toArray) (fun α=>az aQ one ab (l1:=(r++[ax (8*n) 56,ax (8*n) 48,ax (8*n) 40])) (l2:=[ax (8*n) 32]) (Eq.trans (b:=r.flatMap c8++[ax (8*n) 56,ax (8*n) 48,ax (8*n) 40].flatMap c8) aa (by rw [← List.flatMap_append])) (aS aa) aw aw) ?_
 refine P8 (8*n) 24 ?_
 refine QC (.agg ([ax (8*n) 24].flatMap c8).toArray) (fun α=>az aQ one ab (l1:=(r++[ax (8*n) 56,ax (8*n) 48,ax (8*n) 40,ax (8*n) 32])) (l2:=[ax (8*n) 24]) (Eq.trans (b:=r.flatMap c8++[ax (8*n) 56,ax (8*n) 48,ax (8*n) 40,ax (8*n) 32].flatMap c8) aa (by rw [← List.flatMap_append])) (aS aa) aw aw) ?_
 refine P8 (8*n) 16 ?_
 refine QC (.agg ([ax (8*n) 16].flatMap c8).toArray) (fun α=>az aQ one ab (l1:=(r++[ax (8*n) 56,ax (8*n) 48,ax (8*n) 40,ax (8*n) 32,ax (8*n) 24])) (l2:=[ax (8*n) 16]) (Eq.trans (b:=r.flatMap c8++[ax (8*n) 56,ax (8*n) 48,ax (8*n) 40,ax (8*n) 32,ax (8*n) 24].flatMap c8) aa (by rw [← List.flatMap_append])) (aS aa) aw aw) ?_
 refine P8 (8*n) 8 ?_
 refine QC (.agg ([ax (8*n) 8].flatMap c8).toArray) (fun α=>az aQ one ab (l1:=(r++[ax (8*n) 56,ax (8*n) 48,ax (8*n) 40,ax (8*n) 32,ax (8*n) 24,ax (8*n) 16])) (l2:=[ax (8*n) 8]) (Eq.trans (b:=r.flatMap c8++[ax (8*n) 56,ax (8*n) 48,ax (8*n) 40,ax (8*n) 32,ax (8*n) 24,ax (8*n) 16].flatMap c8) aa (by rw [← List.flatMap_append])) (aS aa) aw aw) ?_
 refine P8 (8*n) 0 ?_
 refine QC (.agg ([ax (8*n) 0].flatMap c8).toArray) (fun α=>az aQ one ab (l1:=(r++[ax (8*n) 56,ax (8*n) 48,ax (8*n) 40,ax (8*n) 32,ax (8*n) 24,ax (8*n) 16,ax (8*n) 8])) (l2:=[ax (8*n) 0]) (Eq.trans (b:=r.flatMap c8++[ax (8*n) 56,ax (8*n) 48,ax (8*n) 40,ax (8*n) 32,ax (8*n) 24,ax (8*n) 16,ax (8*n) 8].flatMap c8) aa (by rw [← List.flatMap_append])) (aS aa) aw aw) ?_
 have hfin:pS l=r++mB (8*n):=by unfold pS;rw [hln,hr0,hk2]
 exact aK fun α W _ hrow hS=>⟨hS.below,_,rfl,aH.row hS (n:=20) rfl rfl (hrow 20 _ rfl) (Eq.trans (b:=r.flatMap c8++(mB (8*n)).flatMap c8) aa (by rw [hfin,List.flatMap_append]))⟩
def Mx(f:FuncId)(xs:List SX.Arg)(v:Value):Prop:=f=117∧∃ (u:Value) (l:List W8),l.length<2 ^ 45∧xs=[⟨u,1,l.flatMap c8⟩]∧v=.agg ((pS l).flatMap c8).toArray
def IW(f:FuncId)(xs:List SX.Arg)(v:Value):Prop:=f=118∧∃ (s:S8) (u:Value) (l:List W8),l.length=64∧xs=[⟨.agg s.cells.toArray,0,[]⟩,⟨u,1,l.flatMap c8⟩]∧v=.agg (bK s l).cells.toArray
noncomputable def OY(K A:QV):SX.Cx:={ P:=Tryz.prog,R:=fun _ f xs v=>Mx f xs v∨IW f xs v,shp:=fun f=>if f=117 then some (.sl 1)else if f=118 then some (.ag 8)else none,K:=K,A:=A,arr:=true,trm:=true }
theorem Lg(K A:QV):(OY K A).Ok:=SX.Cx.b6 al fun _ f xs v W h hrd hK=>by
 rcases h with ⟨rfl,u,l,hl,rfl,rfl⟩|⟨rfl,s,u,l,hl,rfl,rfl⟩
 ·obtain⟨A,n,c,rfl,hr,hc,hn⟩:=cT (hrd ⟨u,1,l.flatMap c8⟩ (List.mem_singleton_self _))
  exact(Ho l hl A n c W hr hc).mono fun e w' h=>aH.tc rfl h
 obtain⟨A,n,c,rfl,hr,hc,hn⟩:=cT (hrd ⟨u,1,l.flatMap c8⟩ (List.mem_cons_of_mem _ (List.mem_singleton_self _)))
 exact(AP s l hl A n c W hr hc).mono fun e w' h=>ay rfl h
def tB:List SX.V:=[.x 0 []]
def oU:SX.Tree :=
(.df (.call 117 [(.ext 1)]) [(.q 0)] (.sl 1)
(.loop [(.i 0),(.k (.int .u32 1779033703)),(.k (.int .u32 3144134277)),(.k (.int .u32 1013904242)),(.k (.int .u32 2773480762)),(.k (.int .u32 1359893119)),(.k (.int .u32 2600822924)),(.k (.int .u32 528734635)),(.k (.int .u32 1541459225))] (QL 9 .one)
(.df (.rlen 1) [(.cat [(.q 1)])] .one
(.df (.bin .lss 3) [(.q 2),(.q 11)] .one
(.br 12 []
(.df (.bin .add 3) [(.q 2),(.i 64)] .one
(.df (.slcx 1 true true) [(.cat [(.q 1)]),(.q 2),(.q 13)] .any
(.df (.call 118 [.no,(.row 1 [(.q 14)])]) [(.a (QK 3 8)),(.row 17)] (.ag 8)
(.df (.bin .add 3) [(.q 2),(.i 64)] .one
(.again 0 ([(.q 16)]++QJ 15 0 8))))))
(.df (.bin .shr 136) [(.q 3),(.i 24)] .one
(.df (.conv .u8) [(.q 13)] .one
(.df (.bin .shr 136) [(.q 3),(.i 16)] .one
(.df (.conv .u8) [(.q 15)] .one
(.df (.bin .shr 136) [(.q 3),(.i 8)] .one
(.df (.conv .u8) [(.q 17)] .one
(.df (.bin .shr 136) [(.q 3),(.i 0)] .one
(.df (.conv .u8) [(.q 19)] .one
(.df (.bin .shr 136) [(.q 4),(.i 24)] .one
(.df (.conv .u8) [(.q 21)] .one
(.df (.bin .shr 136) [(.q 4),(.i 16)] .one
(.df (.conv .u8) [(.q 23)] .one
(.df (.bin .shr 136) [(.q 4),(.i 8)] .one
(.df (.conv .u8) [(.q 25)] .one
(.df (.bin .shr 136) [(.q 4),(.i 0)] .one
(.df (.conv .u8) [(.q 27)] .one
(.df (.bin .shr 136) [(.q 5),(.i 24)] .one
(.df (.conv .u8) [(.q 29)] .one
(.df (.bin .shr 136) [(.q 5),(.i 16)] .one
(.df (.conv .u8) [(.q 31)] .one
(.df (.bin .shr 136) [(.q 5),(.i 8)] .one
(.df (.conv .u8) [(.q 33)] .one
(.df (.bin .shr 136) [(.q 5),(.i 0)] .one
(.df (.conv .u8) [(.q 35)] .one
(.df (.bin .shr 136) [(.q 6),(.i 24)] .one
(.df (.conv .u8) [(.q 37)] .one
(.df (.bin .shr 136) [(.q 6),(.i 16)] .one
(.df (.conv .u8) [(.q 39)] .one
(.df (.bin .shr 136) [(.q 6),(.i 8)] .one
(.df (.conv .u8) [(.q 41)] .one
(.df (.bin .shr 136) [(.q 6),(.i 0)] .one
(.df (.conv .u8) [(.q 43)] .one
(.df (.bin .shr 136) [(.q 7),(.i 24)] .one
(.df (.conv .u8) [(.q 45)] .one
(.df (.bin .shr 136) [(.q 7),(.i 16)] .one
(.df (.conv .u8) [(.q 47)] .one
(.df (.bin .shr 136) [(.q 7),(.i 8)] .one
(.df (.conv .u8) [(.q 49)] .one
(.df (.bin .shr 136) [(.q 7),(.i 0)] .one
(.df (.conv .u8) [(.q 51)] .one
(.df (.bin .shr 136) [(.q 8),(.i 24)] .one
(.df (.conv .u8) [(.q 53)] .one
(.df (.bin .shr 136) [(.q 8),(.i 16)] .one
(.df (.conv .u8) [(.q 55)] .one
(.df (.bin .shr 136) [(.q 8),(.i 8)] .one
(.df (.conv .u8) [(.q 57)] .one
(.df (.bin .shr 136) [(.q 8),(.i 0)] .one
(.df (.conv .u8) [(.q 59)] .one
(.df (.bin .shr 136) [(.q 9),(.i 24)] .one
(.df (.conv .u8) [(.q 61)] .one
(.df (.bin .shr 136) [(.q 9),(.i 16)] .one
(.df (.conv .u8) [(.q 63)] .one
(.df (.bin .shr 136) [(.q 9),(.i 8)] .one
(.df (.conv .u8) [(.q 65)] .one
(.df (.bin .shr 136) [(.q 9),(.i 0)] .one
(.df (.conv .u8) [(.q 67)] .one
(.df (.bin .shr 136) [(.q 10),(.i 24)] .one
(.df (.conv .u8) [(.q 69)] .one
(.df (.bin .shr 136) [(.q 10),(.i 16)] .one
(.df (.conv .u8) [(.q 71)] .one
(.df (.bin .shr 136) [(.q 10),(.i 8)] .one
(.df (.conv .u8) [(.q 73)] .one
(.df (.bin .shr 136) [(.q 10),(.i 0)] .one
(.df (.conv .u8) [(.q 75)] .one
(.ret (.a [(.q 14),(.q 16),(.q 18),(.q 20),(.q 22),(.q 24),(.q 26),(.q 28),(.q 30),(.q 32),(.q 34),(.q 36),(.q 38),(.q 40),(.q 42),(.q 44),(.q 46),(.q 48),(.q 50),(.q 52),(.q 54),(.q 56),(.q 58),(.q 60),(.q 62),(.q 64),(.q 66),(.q 68),(.q 70),(.q 72),(.q 74),(.q 76)]) [] []))))))))))))))))))))))))))))))))))))))))))))))))))))))))))))))))))))))
theorem HT(K A:QV):QU (OY K A) ⟨fun _=>false,[⟨88,4,([(.s 5,.one)]++(List.range 8).map fun j=>(.c 9 j,.one))⟩,⟨88,4,([(.s 5,.one)]++(List.range 8).map fun j=>(.c 8 j,.one))⟩,⟨88,4,([(.s 5,.one)]++(List.range 8).map fun j=>(.c 7 j,.one))⟩,⟨88,4,([(.s 5,.one)]++(List.range 8).map fun j=>(.c 6 j,.one))⟩,⟨88,4,([(.s 5,.one)]++(List.range 8).map fun j=>(.c 5 j,.one))⟩,⟨88,4,([(.s 5,.one)]++(List.range 8).map fun j=>(.c 4 j,.one))⟩,⟨88,4,([(.s 5,.one)]++(List.range 8).map fun j=>(.c 3 j,.one))⟩,⟨88,4,([(.s 5,.one)]++(List.range 8).map fun j=>(.c 2 j,.one))⟩,⟨88,4,([(.s 5,.one)]++(List.range 8).map fun j=>(.c 1 j,.one))⟩],0,100⟩ 88 Tryz.f88 tB [.any]=oU:=aa
theorem Il{C:SX.Cx}{ρ:List Value}{α:Nat→SX.AV}{c i i':SX.V}{l:List W8}{lo hi:Nat}(hc:ae (c.den ρ α)=l.flatMap c8)(h1:i.den ρ α=.int .i64 (lo:Int))(h2:i'.den ρ α=.int .i64 (hi:Int))(hl:lo≤hi)(hh:hi≤l.length):cZ.rel C ρ α (.slcx 1 true true) [c,i,i'] (.agg (((l.drop lo).take (hi-lo)).flatMap c8).toArray):=by
 refine⟨lo,hi,l.length,some (.int .i64 (lo:Int)),some (.int .i64 (hi:Int)),?_,?_,?_⟩
 ·simp [ah,h1,h2,jC]
 ·rw [hc,SX.aL aQ]
  simp only [b7,Nat.mul_one,Nat.div_one,Option.bind_some,iN]
  rw [if_pos ab]
  simp only [Option.bind_some,Int.toNat_natCast]
  rw [if_pos ab]
  rfl
 rw [hc,← jv aQ,← fZ aQ]
theorem Lw(l:List W8):(SX.Sh.sl 1).fit (.agg (l.flatMap c8).toArray)=true:=by
 simp only [SX.Sh.fit,Nat.mod_one,beq_self_eq_true,Bool.and_true,Bool.and_eq_true,List.all_eq_true]
 exact⟨aj,zW l⟩
theorem IC(x:cm)(k:Nat):fF .u8 (aI (x>>>k))=some (w8 (ax x.toNat k)):=by
 have:=u5 (x>>>k).toNat .u32
 rw [BitVec.toNat_ushiftRight,Nat.shiftRight_eq_div_pow]at this
 unfold aI
 rw [BitVec.toNat_ushiftRight,Nat.shiftRight_eq_div_pow]
 exact this
theorem P4{C:SX.Cx}{w0:fB}{ps:List (World→Prop)}{T0:List SX.TF}{R:Ending→World→Prop}{L:List (SX.Cx→List Value→Prop)}{ρ:List Value}{q1 q2:cZ}{a1 a2:List SX.V}{s1 s2:SX.Sh}{t:SX.Tree}(x:cm)(k:Nat)(kk:SX.VC C w0 ps T0 R L ((ρ++[aI (x>>>k)])++[w8 (ax x.toNat k)]) t)(h:k<32:=by decide) (e1:∀ α,(aZ .shr (aI x) (.int .i64 (k:Int))=some (aI (x>>>k)))=q1.rel C ρ α a1 (aI (x>>>k)):=by intro α;kernel_rfl) (e2:∀ α,(fF .u8 (aI (x>>>k))=some (w8 (ax x.toNat k)))=q2.rel C (ρ++[aI (x>>>k)]) α a2 (w8 (ax x.toNat k)):=by intro α;kernel_rfl) (f1:s1.fit (aI (x>>>k))=true:=by kernel_rfl) (f2:s2.fit (w8 (ax x.toNat k))=true:=by kernel_rfl):SX.VC C w0 ps T0 R L ρ (.df q1 a1 s1 (.df q2 a2 s2 t)):=aO _ (fun α=>cast (e1 α) (sN x .i64 k ab)) f1 (aO _ (fun α=>cast (e2 α) (IC x k)) f2 kk)
theorem yP(l:List W8)(hl:l.length<2 ^ 45)(A:Option Addr)(n c:Nat)(w:World)(hr:Rd w 1 A n (l.flatMap c8))(hc:n≤c):RT 88 #[.slice A n c] w (.agg ((dv l).flatMap c8).toArray):=by
 refine b8 (C:=OY (fun v z xs=>v=.slice A n c∧z=1∧xs=l.flatMap c8) QW) (G:=⟨fun _=>false,[⟨88,4,([(.s 5,.one)]++(List.range 8).map fun j=>(.c 9 j,.one))⟩,⟨88,4,([(.s 5,.one)]++(List.range 8).map fun j=>(.c 8 j,.one))⟩,⟨88,4,([(.s 5,.one)]++(List.range 8).map fun j=>(.c 7 j,.one))⟩,⟨88,4,([(.s 5,.one)]++(List.range 8).map fun j=>(.c 6 j,.one))⟩,⟨88,4,([(.s 5,.one)]++(List.range 8).map fun j=>(.c 5 j,.one))⟩,⟨88,4,([(.s 5,.one)]++(List.range 8).map fun j=>(.c 4 j,.one))⟩,⟨88,4,([(.s 5,.one)]++(List.range 8).map fun j=>(.c 3 j,.one))⟩,⟨88,4,([(.s 5,.one)]++(List.range 8).map fun j=>(.c 2 j,.one))⟩,⟨88,4,([(.s 5,.one)]++(List.range 8).map fun j=>(.c 1 j,.one))⟩],0,100⟩) (args:=tB) (sh:=[.any]) (ρ:=[.slice A n c]) 100000 oU (Lg _ _) Tryz.func88 rfl (cast aa (HT (fun v z xs=>v=.slice A n c∧z=1∧xs=l.flatMap c8) QW)) aa aa aa (fun W hW v z xs ⟨h1,h2,h3⟩=>by subst h1;subst h2;subst h3;exact⟨hr.aJ hW,hc⟩) ?_
 have hsum:=Kc l
 have hp64:=GU l
 have hpl:(pS l).length<2 ^ 46:=by unfold pS kS;simp only [List.length_append,List.length_replicate,List.length_cons,List.length_nil,show(mB (8*l.length)).length=8 from rfl];omega
 unfold oU
 refine aO (.agg ((pS l).flatMap c8).toArray) (fun α=>⟨[⟨.slice A n c,1,l.flatMap c8⟩],⟨rfl,rfl,⟨rfl,rfl,rfl⟩,trivial⟩,.inl ⟨rfl,_,l,hl,rfl,rfl⟩,ap rfl⟩) (Lw _) ?_
 generalize hP:pS l=P at hsum hp64 hpl
 refine ck (fun xs=>∃ (k:Nat) (s:S8),xs=.int .i64 ((64*k:Nat):Int)::s.cells∧64*k≤P.length∧(cG s (P.drop (64*k))).1=(cG cP P).1) (fun xs=>match xs with|.int _ i::_=>P.length-i.toNat|_=>0) (fun α=>⟨0,cP,aa,ab,rfl⟩) ?_
 rintro xs-⟨k,s,rfl,hk,hI⟩
 refine QC (.int .i64 (P.length:Int)) (fun α=>k8 (bz (j:=1) aa)) ?_
 refine QF (.bool (decide (64*k<P.length))) (dD (64*k) P.length) ?_
 refine QD (decide (64*k<P.length)) (fun hlt=>?_) (fun hge=>?_)
 ·have hlt:64*k<P.length:=af hlt
  have h2:64*k+64≤P.length:=ab
  obtain⟨Q,hQ⟩:∃ Q,Q=(P.drop (64*k)).take (64*k+64-64*k):=⟨_,rfl⟩
  have hQl:Q.length=64:=by rw [hQ,List.length_take,List.length_drop];omega
  have hstep:cG s (P.drop (64*k))=cG (bK s Q) (P.drop (64*(k+1))):=by
   rw [fu (by rw [List.length_drop];omega),hQ,List.drop_drop,show 64*k+64-64*k=64 by omega,show 64*k+64=64*(k+1) by omega]
  refine QF (.int .i64 ((64*k+64:Nat):Int)) (cC (a:=64*k) (b:=64) (d:=64*k+64) rfl ab) ?_
  refine QC (.agg (Q.flatMap c8).toArray) (fun α=>by rw [hQ];exact Il (l:=P) (lo:=64*k) (hi:=64*k+64) (bz (j:=1) aa) aa aa ab h2) ?_
  refine QC (.agg (bK s Q).cells.toArray) (fun α=>⟨[⟨.agg s.cells.toArray,0,[]⟩,⟨(α 17).h,1,Q.flatMap c8⟩],⟨aa,aa,Eq.trans (b:=⟨(α 17).h,1,Q.flatMap c8++[]⟩) (by rw [List.append_nil]) aa,trivial⟩,.inr ⟨rfl,s,_,Q,hQl,rfl,rfl⟩,ap rfl⟩) ?_
  refine QF (.int .i64 ((64*(k+1):Nat):Int)) (cC (a:=64*k) (b:=64) (d:=64*(k+1)) ab ab) ?_
  exact bW rfl (fun α=>⟨k+1,bK s Q,aa,ab,by rw [← hstep,hI]⟩) (fun α=>cast aa (show P.length-(64*(k+1))<P.length-64*k by omega))
 have hge:¬ 64*k<P.length:=af hge
 have hs:(cG cP P).1=s:=by
  rw [← hI,List.drop_of_length_le ab,gX ai]
 refine P4 s.a 24 ?_
 refine P4 s.a 16 ?_
 refine P4 s.a 8 ?_
 refine P4 s.a 0 ?_
 refine P4 s.b 24 ?_
 refine P4 s.b 16 ?_
 refine P4 s.b 8 ?_
 refine P4 s.b 0 ?_
 refine P4 s.c 24 ?_
 refine P4 s.c 16 ?_
 refine P4 s.c 8 ?_
 refine P4 s.c 0 ?_
 refine P4 s.d 24 ?_
 refine P4 s.d 16 ?_
 refine P4 s.d 8 ?_
 refine P4 s.d 0 ?_
 refine P4 s.e 24 ?_
 refine P4 s.e 16 ?_
 refine P4 s.e 8 ?_
 refine P4 s.e 0 ?_
 refine P4 s.f 24 ?_
 refine P4 s.f 16 ?_
 refine P4 s.f 8 ?_
 refine P4 s.f 0 ?_
 refine P4 s.g 24 ?_
 refine P4 s.g 16 ?_
 refine P4 s.g 8 ?_
 refine P4 s.g 0 ?_
 refine P4 s.h 24 ?_
 refine P4 s.h 16 ?_
 refine P4 s.h 8 ?_
 refine P4 s.h 0 ?_
 exact aK fun α W _ _ hS=>ji (x:=.agg ((DX s).flatMap c8).toArray) hS aa (by rw [hsum,hs])
def My(f:FuncId)(xs:List SX.Arg)(v:Value):Prop:=f=88∧∃ (u:Value) (l:List W8),xs=[⟨u,1,l.flatMap c8⟩]∧l.length<2 ^ 45∧v=.agg ((dv l).flatMap c8).toArray
noncomputable def OZ(K A:QV):SX.Cx:={ P:=Tryz.prog,R:=fun _ f xs v=>My f xs v,shp:=fun f=>if f=88 then some (.ag 32)else none,K:=K,A:=A,arr:=true,trm:=true }
theorem Lh(K A:QV):(OZ K A).Ok:=SX.Cx.b6 al fun _ f xs v W h hrd hK=>by
 obtain⟨rfl,u,l,rfl,hl,rfl⟩:=h
 obtain⟨A,n,c,rfl,hr,hc,hn⟩:=cT (hrd ⟨u,1,l.flatMap c8⟩ (List.mem_singleton_self _))
 exact(yP l hl A n c W hr hc).mono fun e w' h=>ay rfl h
def m6:List SX.V:=[.x 0 [],.x 1 []]
def kh:SX.Tree :=
(.df .s2b [(.q 0)] .any
(.df (.call 88 [(.row 1 [(.q 2)])]) [(.row 1)] (.ag 32)
(.df (.dN 1 1 (.own 1 (QJ 3 0 32))) [(.cat []),(.sl 2 0 32 32)] .any
(.df (.dN 1 1 (.ext 1)) [(.cat [(.q 4)]),(.q 1)] .any
(.df (.call 88 [(.row 1 [(.q 4),(.q 5)])]) [(.row 5)] (.ag 32)
(.ret (.a (QJ 6 0 32)) [] []))))))
theorem yZ(K A:QV):QU (OZ K A) ⟨fun _=>true,[],0,100⟩ 54 Tryz.f54 m6 [.one,.one]=kh:=aa
theorem yQ(s:ByteArray)(l:List W8)(hs:s.size<2 ^ 44)(hl:l.length<2 ^ 44)(A:Option Addr)(n c:Nat)(w:World)(hr:Rd w 1 A n (l.flatMap c8))(hc:n≤c):RT 54 #[.string s,.slice A n c] w (.agg ((kg (sb s) l).flatMap c8).toArray):=by
 refine b8 (C:=OZ (fun v z xs=>v=.slice A n c∧z=1∧xs=l.flatMap c8) QW) (G:=⟨fun _=>true,[],0,100⟩) (args:=m6) (sh:=[.one,.one]) (ρ:=[.string s,.slice A n c]) 100000 kh (Lh _ _) Tryz.func54 rfl (cast aa (yZ (fun v z xs=>v=.slice A n c∧z=1∧xs=l.flatMap c8) QW)) aa aa aa (fun W hW v z xs ⟨h1,h2,h3⟩=>by subst h1;subst h2;subst h3;exact⟨hr.aJ hW,hc⟩) ?_
 have one:∀ a,∀ u∈c8 a,u.oneCell'=true:=fun a u hu=>by
  obtain rfl:u=w8 a:=by simpa [c8]using hu
  rfl
 unfold kh
 refine QC (.agg ((sb s).flatMap c8).toArray) (fun α=>qn aa) ?_
 obtain⟨g,hg⟩:=ub (n:=32) (dv (sb s)) rfl
 refine QC (.agg (((List.range 32).map g).flatMap c8).toArray) (fun α=>by rw [← hg];exact⟨[⟨(α 1).h,1,(sb s).flatMap c8⟩],⟨Eq.trans (b:=⟨(α 1).h,1,(sb s).flatMap c8++[]⟩) (by rw [List.append_nil]) aa,trivial⟩,⟨rfl,_,_,rfl,by rw [lg];omega,rfl⟩,ap rfl⟩) ?_
 refine QC (.agg (((List.range 32).map g).flatMap c8).toArray) (fun α=>az aQ one ab (l1:=[]) (l2:=((List.range 32).map g)) aa (aS aa) ai ai) ?_
 refine QC (.agg (l.flatMap c8).toArray) (fun α=>az aQ one ab (l1:=((List.range 32).map g)) (l2:=l) (bz aa) (nS ⟨rfl,rfl,rfl⟩) aw aw) ?_
 obtain⟨g2,hg2⟩:=ub (n:=32) (kg (sb s) l) rfl
 refine QC (.agg (((List.range 32).map g2).flatMap c8).toArray) (fun α=>by rw [← hg2];exact⟨[⟨(α 5).h,1,(dv (sb s)++l).flatMap c8⟩],⟨Eq.trans (b:=⟨(α 5).h,1,((List.range 32).map g).flatMap c8++(l.flatMap c8++[])⟩) (by rw [hg,List.append_nil,List.flatMap_append]) aa,trivial⟩,⟨rfl,_,_,rfl,by simp only [List.length_append,li];omega,rfl⟩,ap rfl⟩) ?_
 exact aK fun α W _ _ hS=>ji (x:=.agg (((List.range 32).map g2).flatMap c8).toArray) hS aa (by rw [hg2])
def Mz(f:FuncId)(xs:List SX.Arg)(v:Value):Prop:=f=54∧∃ (s:ByteArray) (u:Value) (l:List W8),xs=[⟨.string s,0,[]⟩,⟨u,1,l.flatMap c8⟩]∧s.size<2 ^ 44∧l.length<2 ^ 44∧v=.agg ((kg (sb s) l).flatMap c8).toArray
noncomputable def O0(K A:QV):SX.Cx:={ P:=Tryz.prog,R:=fun _ f xs v=>Mz f xs v,shp:=fun f=>if f=54 then some (.ag 32)else none,K:=K,A:=A,arr:=true,trm:=true }
theorem Lj(K A:QV):(O0 K A).Ok:=SX.Cx.b6 al fun _ f xs v W h hrd hK=>by
 obtain⟨rfl,s,u,l,rfl,hs,hl,rfl⟩:=h
 obtain⟨A,n,c,rfl,hr,hc,hn⟩:=cT (hrd ⟨u,1,l.flatMap c8⟩ (List.mem_cons_of_mem _ (List.mem_singleton_self _)))
 exact(yQ s l hs hl A n c W hr hc).mono fun e w' h=>ay rfl h
theorem CM(i:Nat):i^^^1=if i % 2=0 then i+1 else i-1:=by
 have h1:(i^^^1) / 2=i / 2:=by rw [Nat.xor_div_two];simp
 have h2:((i^^^1) % 2=1)↔¬ ((i % 2=1)↔(1 % 2=1)):=Nat.xor_mod_two_eq_one
 split<;>omega
def OL(f:FuncId)(xs:List SX.Arg)(v:Value):Prop:=f=88∧∃ (u:Value) (l:List W8),xs=[⟨u,1,l.flatMap c8⟩]∧l.length<35184372088832∧v=dK (bP l)
theorem uA{f:FuncId}{xs:List SX.Arg}{v:Value}{W:World}(h:OL f xs v)(hrd:∀ x∈xs,x.rd W):Calls Tryz.prog f (xs.map SX.Arg.v).toArray W fun e w'=>e=.returned v∧Below W.heap.size W w':=by
 obtain⟨rfl,u,l,rfl,hl,rfl⟩:=h
 obtain⟨A,n,c,rfl,hr,hc,hn⟩:=cT (hrd ⟨u,1,l.flatMap c8⟩ ai)
 rw [← vz]
 exact yP l hl A n c W hr hc
def OM(f:FuncId)(xs:List SX.Arg)(v:Value):Prop:=f=89∧∃ (tag:ByteArray) (u:Value) (l:List W8),xs=[⟨.string tag,0,[]⟩,⟨u,1,l.flatMap c8⟩]∧tag.size<1073741824∧l.length≤17592186044416∧v=.agg ((dv (sb tag)++l).flatMap c8).toArray
def Ql(f:FuncId)(xs:List SX.Arg)(v:Value):Prop:=f=90∧∃ x y:Dg,xs=[⟨dK x,0,[]⟩,⟨dK y,0,[]⟩]∧v=.agg ((gx x y).flatMap c8).toArray
def Ig:FuncId→Option SX.Sh:=fun f=>if f∈[88,54]then some (.ag 32)else if f∈[89,90]then some (.sl 1)else if f∈[56,55]then some (.sl 32)else none
noncomputable def MY(K A:QV):SX.Cx:={ P:=Tryz.prog,R:=fun K f xs v=>OL f xs v,shp:=Ig,K:=K,A:=A,trm:=true }
theorem Jf(K A:QV):(MY K A).Ok:=by
 refine SX.Cx.b6 al ?_
 intro K f xs v W hR hrd hKf
 have hf:=hR.1
 exact(uA hR hrd).mono fun e w' k=>ay (by subst hf;rfl) k
def pI:SX.Tree :=(.df .s2b [(.q 0)] .any
(.df (.call 88 [(.row 1 [(.q 2)])]) [(.row 0)] (.ag 32)
(.df (.dN 1 1 (.own 1 (QJ 3 0 32))) [(.cat []),(.sl 1 0 32 32)] .any
(.df (.dN 1 1 (.ext 1)) [(.cat [(.q 4)]),(.q 1)] .any
(.ret (.row 4) [none,none,none,none,(some ⟨[(.q 4),(.q 5)],5,(.row 1)⟩)] [])))))
def xy:List SX.V:=[.x 0 [],.x 1 []]
def z6:kp:=⟨fun f=>true,[],2,100⟩
theorem Bo(K A:QV):QU (MY K A) z6 89 Tryz.f89 xy [.one,.one]=pI:=aa
theorem Ew(tag:ByteArray)(l:List W8)(A:Option Addr)(n c:Nat)(w:World)(htag:tag.size<1073741824)(hl:l.length≤17592186044416)(hr:Rd w 1 A n (l.flatMap c8))(hc:n≤c):RS 89 #[.string tag,.slice A n c] w 1 ((dv (sb tag)++l).flatMap c8):=by
 refine QG (Bo (KW w) QW) [.string tag,.slice A n c] (Jf _ _) Tryz.func89 ?_ ?_
 ·exact fun W hW v z xs h=>h W hW
 have hK1:KW w (.slice A n c) 1 (l.flatMap c8):=fun W hW=>⟨hr.aJ hW,hc⟩
 unfold pI
 refine QC (.agg ((sb tag).flatMap c8).toArray) (fun α=>qn aa) ?_
 refine QC (dK (bP (sb tag))) (fun α=>⟨[⟨(α 0).h,1,(sb tag).flatMap c8⟩],⟨Eq.trans (da (α 0).h 1 ((sb tag).flatMap c8)) aa,trivial⟩,⟨rfl,_,_,rfl,by rw [lg];omega,rfl⟩,ap rfl⟩) ?_
 have hD:=qH (sb tag)
 generalize bP (sb tag)=D at *
 generalize dv (sb tag)=X at *
 refine QC (.agg ((cr D).flatMap c8).toArray) (fun α=>az (f:=c8) aQ w6 aj (l1:=[]) (l2:=cr D) aa (aS aa) (by simp [eK]) (by simp [eK])) ?_
 refine aO (.agg (l.flatMap c8).toArray) (fun α=>az (f:=c8) aQ w6 aj (l1:=cr D) (l2:=l) (bz (j:=4) aa) (nS (cast aa hK1)) (by rw [eK];omega) (by rw [eK];omega)) rfl ?_
 exact aK fun α W _ hrow hS=>⟨hS.below,_,aa,aH.row hS (n:=4) (b:=(⟨[(.x 4 []),(.x 5 [])],5,(.row 1)⟩:ak)) aa rfl (hrow 4 _ aa) (Eq.trans (b:=[Value.agg ((cr D).flatMap c8).toArray,.agg (l.flatMap c8).toArray].flatMap ae) aa (by rw [← hD];simp [ae]))⟩
theorem uB{f:FuncId}{xs:List SX.Arg}{v:Value}{W:World}{C:SX.Cx}(h:OM f xs v)(hs:C.sh 89=.sl 1)(hrd:∀ x∈xs,x.rd W):Calls Tryz.prog f (xs.map SX.Arg.v).toArray W fun e w'=>Below W.heap.size W w'∧∃ hdr,e=.returned ((C.sh f).fill hdr v)∧∀ p z,(p,z)∈(C.sh f).ti []→mX C f xs W w' hdr z (ae (p.foldl SX.comp v)):=by
 obtain⟨rfl,tag,u,l,rfl,ht,hl,rfl⟩:=h
 obtain⟨A,n,c,rfl,hr,hc,hn⟩:=cT (hrd ⟨u,1,l.flatMap c8⟩ ai)
 exact Calls.mono (Ew tag l A n c W ht hl hr hc) fun e w' h=>aH.tc hs h
noncomputable def MZ(K A:QV):SX.Cx:={ P:=Tryz.prog,R:=fun K f xs v=>OM f xs v,shp:=Ig,K:=K,A:=A,trm:=true }
theorem Jg(K A:QV):(MZ K A).Ok:=by
 refine SX.Cx.b6 al ?_
 intro K f xs v W hR hrd hKf
 exact uB hR rfl hrd
def sH:SX.Tree :=(.df (.dN 1 1 (.own 1 (QJ 0 0 32))) [(.cat []),(.sl 0 0 32 32)] .any
(.df (.dN 1 1 (.own 1 (QJ 1 0 32))) [(.cat [(.q 2)]),(.sl 1 0 32 32)] .any
(.df (.call 89 [.no,(.row 1 [(.q 2),(.q 3)])]) [(.k (.string ⟨#[110,111,100,101]⟩)),(.row 6)] (.sl 1)
(.ret (.row 7) (List.replicate 7 none++[(some ⟨[(.q 4)],0,(.ext 1)⟩)]) []))))
def zQ:List SX.V:=[.a ((List.range 32).map fun j=>.x 0 [j]),.a ((List.range 32).map fun j=>.x 1 [j])]
def Dl:kp:=⟨fun f=>true,[],2,100⟩
theorem ES(K A:QV):QU (MZ K A) Dl 90 Tryz.f90 zQ [.ag 32,.ag 32]=sH:=aa
theorem Hq(x y:Dg)(w:World):RS 90 #[dK x,dK y] w 1 ((gx x y).flatMap c8):=by
 refine QG (ES (KW w) QW) [dK x,dK y] (Jg _ _) Tryz.func90 ?_ ?_
 ·exact fun W hW v z xs h=>h W hW
 unfold gx
 generalize hX:dv (sb pn)=X at *
 unfold sH
 refine QC (.agg ((cr x).flatMap c8).toArray) (fun α=>az (f:=c8) aQ w6 aj (l1:=[]) (l2:=cr x) aa (aS aa) (by simp [eK]) (by simp [eK])) ?_
 refine QC (.agg ((cr y).flatMap c8).toArray) (fun α=>az (f:=c8) aQ w6 aj (l1:=cr x) (l2:=cr y) (bz (j:=2) aa) (aS aa) (by simp [eK]) (by simp [eK])) ?_
 refine aO (.agg ((X++(cr x++cr y)).flatMap c8).toArray) (fun α=>⟨[⟨.string pn,0,[]⟩,⟨(α 6).h,1,(cr x++cr y).flatMap c8⟩],⟨aa,aa,Eq.trans (b:=(⟨(α 6).h,1,[Value.agg ((cr x).flatMap c8).toArray,.agg ((cr y).flatMap c8).toArray].flatMap ae⟩:SX.Arg)) (by simp [ae]) aa,trivial⟩,⟨rfl,pn,_,cr x++cr y,rfl,aj,by simp [eK],by rw [hX]⟩,ap rfl⟩) (bg _) ?_
 exact aK fun α W _ hR hS=>⟨hS.below,(α 7).h,aa,aH.vD hS (n:=7) (b:=(⟨[(.x 4 [])],0,(.ext 1)⟩:ak)) aa rfl (hR 7 _ aa) (Eq.trans (b:=[Value.agg ((X++(cr x++cr y)).flatMap c8).toArray].flatMap ae) aa (by simp [ae])) (fun W2 s z xs hk=>nomatch hk) (fun B s z xs hk=>nomatch hk)⟩
noncomputable def La(K A:QV):SX.Cx:={ P:=Tryz.prog,R:=fun K f xs v=>OL f xs v∨Ql f xs v∨OM f xs v,shp:=Ig,K:=K,A:=A,trm:=true }
theorem p8(K A:QV):(La K A).Ok:=by
 refine SX.Cx.b6 al ?_
 intro K f xs v W hR hrd hKf
 rcases hR with hR|⟨rfl,x,y,rfl,rfl⟩|hR
 ·have hf:=hR.1
  exact(uA hR hrd).mono fun e w' k=>ay (by subst hf;rfl) k
 ·exact Calls.mono (Hq x y W) fun e w' h=>aH.tc rfl h
 exact uB hR rfl hrd
end Go.Proofs.YtidekfgkpindbaaGreatDoor
