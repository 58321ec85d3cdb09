/-
  Texts behind the statement, part 7.
-/
import Derived.Test.YtidekfgkpindbaaGreatDoorPC6
import Derived.Test.YtidekfgkpindbaaGreatDoorPC1
import Derived.LaidMore
import Derived.Stop.Joined
import Derived.Stop.LaidErr
import Derived.Lib.LaidTab
import Derived.ChangeSlices
import Derived.MakeChecks
import Derived.DataElems
import Derived.Test.YtidekfgkpindbaaGreatDoorPC5
set_option linter.unusedSimpArgs false
set_option linter.unusedVariables false
set_option maxRecDepth 100000
set_option maxHeartbeats 4000000
namespace Go.Proofs.YtidekfgkpindbaaGreatDoor
open Go Go.RowKit SX
def nK(x:bX):Prop:=(0≤x.no∧x.no≤1048576)∧(0≤x.person∧x.person≤63)∧(0≤x.from_∧x.from_≤x.to_)∧x.to_≤73048∧(0≤x.known∧x.known≤134217727)∧(aL x.kind x.limb x.n∨(x.kind=0∧x.limb=0∧x.n=0∧x.of_≠0))
instance (x:bX):Decidable (nK x):=by unfold nK;infer_instance
theorem ax{x:bX}:nK x↔(0≤x.no∧x.no≤1048576)∧(0≤x.person∧x.person≤63)∧(0≤x.from_∧x.from_≤x.to_)∧x.to_≤73048∧(0≤x.known∧x.known≤134217727)∧(aL x.kind x.limb x.n∨(x.kind=0∧x.limb=0∧x.n=0∧x.of_≠0)):=Iff.rfl
def fZ(p:List bX)(x:bX):Prop:=x.of_=0∨((∀ y∈p,y.of_≠x.of_)∧∃ y∈p,y.no+1=x.of_∧y.person=x.person∧y.known≤x.known)
instance (p:List bX) (x:bX):Decidable (fZ p x):=by unfold fZ;infer_instance
def Ga(l:List bX)(i:Nat)(z:bX):Prop:=nK z∧(∀ y∈l.take i,y.no<z.no)∧fZ (l.take i) z
def Lx(l:List bX):Prop:=∀ i z,l[i]?=some z→Ga l i z
noncomputable instance (l:List bX):Decidable (Lx l):=Classical.propDecidable _
def si(l:List bX)(i:Nat):Prop:=∀ j z,j<i→l[j]?=some z→Ga l j z
noncomputable def cf(l:List bX):Int:=if 512<l.length then 2 else if Lx l then 0 else 340
theorem s5(l:List bX):si l 0:=fun j z h=>absurd h (by omega)
theorem iY{l:List bX}{i:Nat}{z:bX}(h:si l i)(hz:l[i]?=some z)(ha:Ga l i z):si l (i+1):=fun j y hj hy=>by
 by_cases he:j=i
 ·subst he;rw [hz]at hy;cases hy;exact ha
 exact h j y (by omega) hy
theorem xA{l:List bX}{i:Nat}(h:si l i)(hi:l.length≤i):Lx l:=fun j y hy=>h j y (Nat.lt_of_lt_of_le (List.getElem?_eq_some_iff.1 hy).1 hi) hy
theorem bI{l:List bX}{i:Nat}{z:bX}(hz:l[i]?=some z)(h:¬ Ga l i z):¬ Lx l:=fun hk=>h (hk i z hz)
theorem fe{l:List bX}{i:Nat}{z:bX}(hz:l[i]?=some z){P:bX→Prop}:(∃ q∈l.take (i+1),P q)↔(∃ q∈l.take i,P q)∨P z:=by
 rw [List.take_add_one,hz]
 simp only [Option.toList_some,List.mem_append,List.mem_singleton]
 constructor
 ·rintro⟨q,h|rfl,hq⟩
  ·exact .inl ⟨q,h,hq⟩
  exact .inr hq
 rintro(⟨q,h,hq⟩|h)
 ·exact⟨q,.inl h,hq⟩
 exact⟨z,.inr rfl,h⟩
theorem gB{l:List bX}{i:Nat}{z:bX}(hz:l[i]?=some z){P:bX→Prop}:(∀ q∈l.take (i+1),P q)↔(∀ q∈l.take i,P q)∧P z:=by
 rw [List.take_add_one,hz]
 simp only [Option.toList_some,List.mem_append,List.mem_singleton]
 constructor
 ·exact fun h=>⟨fun q hq=>h q (.inl hq),h z (.inr rfl)⟩
 rintro⟨h,hz⟩ q (hq|rfl)
 ·exact h q hq
 exact hz
theorem iX{l:List bX}{i j:Nat}{z:bX}(hz:l[j]?=some z)(h:j<i):z∈l.take i:=List.mem_of_getElem? (i:=j) (by rw [List.getElem?_take,if_pos h];exact hz)
theorem gH{l:List bX}{i:Nat}{z:bX}(h:z∈l.take i):∃ j,j<i∧l[j]?=some z:=by
 obtain⟨j,hj⟩:=List.mem_iff_getElem?.1 h
 rw [List.getElem?_take]at hj
 split at hj
 ·exact⟨j,by assumption,hj⟩
 cases hj
theorem nX{l:List bX}{i:Nat}{y z:bX}(h:si l i)(hi:0<i)(hy:l[i-1]?=some y):(∀ q∈l.take i,q.no<z.no)↔y.no<z.no:=by
 constructor
 ·exact fun h=>h y (iX hy (by omega))
 intro hlt q hq
 obtain⟨j,hj,hq⟩:=gH hq
 by_cases he:j=i-1
 ·subst he;rw [hy]at hq;cases hq;exact hlt
 ·have:=(h (i-1) y (by omega) hy).2.1 q (iX hq (by omega))
  omega
def iL(p:Int×Int×Int):List Value:=[.int .i64 p.1,.int .i64 p.2.1,.int .i64 p.2.2]
theorem jr(a b:Int×Int×Int)(h:iL a=iL b):a=b:=by
 obtain⟨a1,a2,a3⟩:=a
 obtain⟨b1,b2,b3⟩:=b
 simpa [iL]using h
theorem eF{W:World}{u:Value}{ls:List bX}(h:SX.Arg.rd W ⟨u,9,dn ls⟩):∃ A n c,u=.slice A n c∧Rd W 9 A n (dn ls)∧n≤c∧ls.length=n:=by
 unfold SX.Arg.rd at h
 split at h
 ·rename_i A n c hu
  have hu:u=.slice A n c:=hu
  refine⟨A,n,c,hu,h.1,h.2,?_⟩
  have:=h.1.1;simp only [dO]at this;omega
 cases h
def O9(f:FuncId)(xs:List SX.Arg)(v:Value):Prop:=f=106∧∃ k l n:Int,xs=[⟨.agg #[.int .i64 k,.int .i64 l,.int .i64 n],0,[]⟩]∧v=.bool (decide (aL k l n))
def M3:FuncId→Option SX.Sh:=fun f=>if f=106 then some .one else none
noncomputable def L5(K A:PZ):SX.Cx:={ P:=Tryz.prog,R:=fun _=>O9,shp:=M3,K:=K,A:=A,trm:=true }
theorem Oj(K A:PZ):(L5 K A).Ok:=by
 refine SX.Cx.bP (fun _=>rfl) ?_
 intro K f xs v W hR hrd hKf
 obtain⟨rfl,k,l,n,rfl,rfl⟩:=hR
 exact(zj k l n W).mono fun e w' h=>al rfl h
def xf(i:Int):Value:=.int .i64 i
theorem kg(a b:Int)(h:xf a=xf b):a=b:=by injection h
def Lv(_:Unit):List Value:=[.bool true]
theorem gP:jS Tryz.prog 3 (MapKept.IsKey (.int .i64)):=jS.plain (by kernel_rfl)
def gm(ls:List bX):Prop:=∀ z∈ls,-9223372036854775808≤z.of_∧z.of_≤9223372036854775807
structure B0(ls:List bX)(i:Nat)(last:Int)(lk lr:List Qe)(M:Int→Option bX)(G:Int→Option Unit):Prop where
 ok:si ls i
 la:∀ v,last<v↔0≤v∧∀ y∈ls.take i,y.no<v
 m:iE xf aV lk M
 mkk:∀ e∈lk,MapKept.IsKey (.int .i64) e.key
 g:iE xf Lv lr G
 gk:∀ e∈lr,MapKept.IsKey (.int .i64) e.key
 hm:∀ q y,M q=some y↔y∈ls.take i∧y.no=q
 hg:∀ q,G q=some ()↔∃ y∈ls.take i,y.of_=q
theorem C1(ls:List bX):B0 ls 0 (-1) [] [] (fun _=>none) (fun _=>none):=⟨s5 ls,fun v=>by simp;omega,iE.zero,(fun e he=>nomatch he),iE.zero,(fun e he=>nomatch he),fun q y=>by simp,fun q=>by simp⟩
theorem kX{ls:List bX}{i:Nat}{last:Int}{lk lr lk2 lr2:List Qe}{M:Int→Option bX}{G:Int→Option Unit}{z:bX}{nk nr nk2 nr2:Nat}(h:B0 ls i last lk lr M G)(hz:ls[i]?=some z)(hp:B3 nk lk (xf z.no) (aV z) nk2 lk2)(hp2:B3 nr lr (xf z.of_) (Lv ()) nr2 lr2)(hM:iE xf aV lk2 (yu M z.no (some z)))(hG:iE xf Lv lr2 (yu G z.of_ (some ())))(ha:Ga ls i z):B0 ls (i+1) z.no lk2 lr2 (yu M z.no (some z)) (yu G z.of_ (some ())):=by
 have h0:=(ax.1 ha.1).1
 refine⟨iY h.ok hz ha,fun v=>?_,hM,hp.keys h.mkk rfl,hG,hp2.keys h.gk rfl,fun q y=>?_,fun q=>?_⟩
 ·rw [gB hz]
  exact⟨fun h=>⟨by omega,fun y hy=>by have:=ha.2.1 y hy;omega,h⟩,fun h=>h.2.2⟩
 ·have key:=fe hz (P:=fun x=>x=y∧x.no=q)
  have e1:(y∈ls.take (i+1)∧y.no=q)↔∃ x∈ls.take (i+1),x=y∧x.no=q:=⟨fun h=>⟨y,h.1,rfl,h.2⟩,fun⟨x,hx,e,e2⟩=>by subst e;exact⟨hx,e2⟩⟩
  have e2:(∃ x∈ls.take i,x=y∧x.no=q)↔(y∈ls.take i∧y.no=q):=⟨fun⟨x,hx,e,e2⟩=>by subst e;exact⟨hx,e2⟩,fun h=>⟨y,h.1,rfl,h.2⟩⟩
  rw [e1,key,e2]
  by_cases hq:q=z.no
  ·subst hq
   rw [li]
   constructor
   ·intro h;exact .inr ⟨Option.some.inj h,rfl⟩
   rintro(⟨hy,hyq⟩|⟨hy,-⟩)
   ·exact absurd (ha.2.1 y hy) (by omega)
   rw [hy]
  rw [fQ _ _ hq,h.hm]
  exact⟨.inl,fun h=>h.elim id fun h=>absurd h.2.symm hq⟩
 rw [fe hz]
 by_cases hq:q=z.of_
 ·subst hq
  rw [li]
  exact⟨fun _=>.inr rfl,fun _=>rfl⟩
 rw [fQ _ _ hq,h.hg]
 exact⟨.inl,fun h=>h.elim id fun h=>absurd h.symm hq⟩
theorem BV{ls:List bX}{i:Nat}(h:si ls i){y y':bX}(hy:y∈ls.take i)(hy':y'∈ls.take i)(he:y.no=y'.no):y=y':=by
 obtain⟨j,hj,hy⟩:=gH hy
 obtain⟨k,hk,hy'⟩:=gH hy'
 rcases Nat.lt_trichotomy j k with hjk|hjk|hjk
 ·have:=(h k y' hk hy').2.1 y (iX hy hjk);omega
 ·subst hjk;rw [hy]at hy';exact Option.some.inj hy'
 ·have:=(h j y hj hy).2.1 y' (iX hy' hjk);omega
theorem kL{a b:Int}(h1 : -9223372036854775808≤a)(h2:a≤9223372036854775807)(h3:0≤b)(h4:b≤1048576):b=IntKind.i64.wrap (a-1)↔b+1=a:=by
 by_cases h:a = -9223372036854775808
 ·subst h
  have:IntKind.i64.wrap (-9223372036854775808-1)=9223372036854775807:=by decide
  rw [this];omega
 rw [wrap_i64 (by omega) (by omega)];omega
def H4:bX:=⟨0,0,0,0,0,0,0,0,0⟩
theorem zE{ls:List bX}{i:Nat}{last:Int}{lk lr:List Qe}{M:Int→Option bX}{G:Int→Option Unit}(h:B0 ls i last lk lr M G)(q:Int):∃ (y:bX)(b:Bool),((M q=some y∧b=true)∨(M q=none∧y=H4∧b=false))∧(b=true→y∈ls.take i∧y.no=q)∧(b=false→∀ y'∈ls.take i,y'.no≠q):=by
 cases hg:M q with
 | none=>exact⟨H4,false,.inr ⟨rfl,rfl,rfl⟩,nofun,fun _ y' hy' he=>by have:=(h.hm q y').2 ⟨hy',he⟩;rw [hg]at this;cases this⟩
 | some y=>exact⟨y,true,.inl ⟨rfl,rfl⟩,fun _=>(h.hm q y).1 hg,nofun⟩
theorem C8{ls:List bX}{i:Nat}{last:Int}{lk lr:List Qe}{M:Int→Option bX}{G:Int→Option Unit}(h:B0 ls i last lk lr M G)(q:Int):∃ b:Bool,((G q=some ()∧b=true)∨(G q=none∧b=false))∧(b=true↔∃ y∈ls.take i,y.of_=q):=by
 cases hg:G q with
 | none=>exact⟨false,.inr ⟨rfl,rfl⟩,nofun,fun h'=>by have:=(h.hg q).2 h';rw [hg]at this;cases this⟩
 | some y=>exact⟨true,.inl ⟨rfl,rfl⟩,fun _=>(h.hg q).1 hg,fun _=>rfl⟩
def oK:SX.Tree :=
(.df (.len false) [(.q 0)] .one
(.df (.bin .gtr 3) [(.q 1),(.i 512)] .one
(.br 2 []
(.ret (.i 2) [] [])
(.df (.len false) [(.q 0)] .one
(.loop [(.i 0),(.i (-1)),(.a [(.i 0)]),(.a [(.i 0)])] [.one,.one,.any,.any]
(.df (.bin .lss 3) [(.q 4),(.q 3)] .one
(.br 8 []
(.df .bnd [(.q 0),(.q 4)] .one
(.df (.elems 9 0 9) [(.q 0),(.q 4)] (.ag 9)
(.df (.bin .sub 3) [(.x 10 [2]),(.i 1)] .one
(.df (.mlk true 3 9 true (.agg #[(.int .i64 0),(.int .i64 0),(.int .i64 0),(.int .i64 0),(.int .i64 0),(.int .i64 0),(.int .i64 0),(.int .i64 0),(.int .i64 0)])) [(.cat [(.q 6)]),(.q 11)] (.tp [(.ag 9),.one])
(.df (.bin .leq 3) [(.x 10 [0]),(.q 5)] .one
(.br 13 []
(.ret (.i 340) [] [])
(.df (.bin .gtr 3) [(.x 10 [0]),(.i 1048576)] .one
(.br 14 []
(.ret (.i 340) [] [])
(.df (.bin .leq 3) [(.i 0),(.x 10 [1])] .one
(.br 15 []
(.df (.bin .leq 3) [(.x 10 [1]),(.i 63)] .one
(.df .not [(.q 16)] .one
(.br 17 []
(.ret (.i 340) [] [])
(.df (.bin .lss 3) [(.x 10 [3]),(.i 0)] .one
(.br 18 []
(.ret (.i 340) [] [])
(.df (.bin .gtr 3) [(.x 10 [3]),(.x 10 [4])] .one
(.br 19 []
(.ret (.i 340) [] [])
(.df (.bin .gtr 3) [(.x 10 [4]),(.i 73048)] .one
(.br 20 []
(.ret (.i 340) [] [])
(.df (.bin .leq 3) [(.i 0),(.x 10 [5])] .one
(.br 21 []
(.df (.bin .leq 3) [(.x 10 [5]),(.i 134217727)] .one
(.df .not [(.q 22)] .one
(.br 23 []
(.ret (.i 340) [] [])
(.df (.call 106 [.no]) [(.a [(.x 10 [6]),(.x 10 [7]),(.x 10 [8])])] .one
(.df .not [(.q 24)] .one
(.br 25 []
(.df (.eqr true 3 [(.i .i64),(.i .i64),(.i .i64)]) (PN 10 6 3++[(.i 0),(.i 0),(.i 0)]) .one
(.br 26 []
(.ret (.i 340) [] [])
(.df (.bin .eql 3) [(.x 10 [2]),(.i 0)] .one
(.br 27 []
(.ret (.i 340) [] [])
(.df (.bin .neq 3) [(.x 10 [2]),(.i 0)] .one
(.br 28 []
(.df .not [(.x 12 [1])] .one
(.br 29 []
(.ret (.i 340) [] [])
(.df (.mlk false 3 1 false (.bool false)) [(.cat [(.q 7)]),(.x 10 [2])] .one
(.br 30 []
(.ret (.i 340) [] [])
(.df (.bin .neq 3) [(.x 12 [0,1]),(.x 10 [1])] .one
(.br 31 []
(.ret (.i 340) [] [])
(.df (.bin .gtr 3) [(.x 12 [0,5]),(.x 10 [5])] .one
(.br 32 []
(.ret (.i 340) [] [])
(.df (.mset 3 9 true) [(.cat [(.q 6)]),(.x 10 [0]),(.x 10 [0]),(.x 10 [1]),(.x 10 [2]),(.x 10 [3]),(.x 10 [4]),(.x 10 [5]),(.x 10 [6]),(.x 10 [7]),(.x 10 [8])] .any
(.df (.mset 3 1 false) [(.cat [(.q 7)]),(.x 10 [2]),(.k (.bool true))] .any
(.df (.bin .add 3) [(.q 4),(.i 1)] .one
(.again 0 [(.q 35),(.x 10 [0]),(.q 33),(.q 34)]))))))))))))
(.df (.mset 3 9 true) [(.cat [(.q 6)]),(.x 10 [0]),(.x 10 [0]),(.x 10 [1]),(.x 10 [2]),(.x 10 [3]),(.x 10 [4]),(.x 10 [5]),(.x 10 [6]),(.x 10 [7]),(.x 10 [8])] .any
(.df (.mset 3 1 false) [(.cat [(.q 7)]),(.x 10 [2]),(.k (.bool true))] .any
(.df (.bin .add 3) [(.q 4),(.i 1)] .one
(.again 0 [(.q 31),(.x 10 [0]),(.q 29),(.q 30)]))))))))))
(.df (.bin .neq 3) [(.x 10 [2]),(.i 0)] .one
(.br 26 []
(.df .not [(.x 12 [1])] .one
(.br 27 []
(.ret (.i 340) [] [])
(.df (.mlk false 3 1 false (.bool false)) [(.cat [(.q 7)]),(.x 10 [2])] .one
(.br 28 []
(.ret (.i 340) [] [])
(.df (.bin .neq 3) [(.x 12 [0,1]),(.x 10 [1])] .one
(.br 29 []
(.ret (.i 340) [] [])
(.df (.bin .gtr 3) [(.x 12 [0,5]),(.x 10 [5])] .one
(.br 30 []
(.ret (.i 340) [] [])
(.df (.mset 3 9 true) [(.cat [(.q 6)]),(.x 10 [0]),(.x 10 [0]),(.x 10 [1]),(.x 10 [2]),(.x 10 [3]),(.x 10 [4]),(.x 10 [5]),(.x 10 [6]),(.x 10 [7]),(.x 10 [8])] .any
(.df (.mset 3 1 false) [(.cat [(.q 7)]),(.x 10 [2]),(.k (.bool true))] .any
(.df (.bin .add 3) [(.q 4),(.i 1)] .one
(.again 0 [(.q 33),(.x 10 [0]),(.q 31),(.q 32)]))))))))))))
(.df (.mset 3 9 true) [(.cat [(.q 6)]),(.x 10 [0]),(.x 10 [0]),(.x 10 [1]),(.x 10 [2]),(.x 10 [3]),(.x 10 [4]),(.x 10 [5]),(.x 10 [6]),(.x 10 [7]),(.x 10 [8])] .any
(.df (.mset 3 1 false) [(.cat [(.q 7)]),(.x 10 [2]),(.k (.bool true))] .any
(.df (.bin .add 3) [(.q 4),(.i 1)] .one
(.again 0 [(.q 29),(.x 10 [0]),(.q 27),(.q 28)]))))))))))))
(.ret (.i 340) [] []))))))))))))
(.ret (.i 340) [] [])))))))))))
(.ret (.i 0) [] []))))))))
def wi:List SX.V:=[.x 0 []]
theorem An(K A:PZ):PY (L5 K A) ⟨fun f=>true,[⟨74,7,[(.s 19,.one),(.c 3 0,.one),(.c 0 0,.any),(.c 1 0,.any)]⟩],0,100⟩ 74 Tryz.f74 wi [.one]=oK:=by kernel_rfl
theorem zA(ls:List bX)(A:Option Addr)(n c:Nat)(w:World)(hr:Rd w 9 A n (dn ls))(hn:n≤9223372036854775807)(hc:n≤c)(hfit:gm ls):RT 74 #[.slice A n c] w (.int .i64 (cf ls)):=by
 refine PK (An (fun s sz cells=>s=.slice A n c∧sz=9∧cells=dn ls) P0) [.slice A n c] (Oj _ _) Tryz.func74 ?_ ?_
 ·rintro W hW s sz cells ⟨rfl,rfl,rfl⟩;exact⟨hr.aD hW,hc⟩
 have hA:=SX.rd_some hr
 have hln:ls.length=n:=by have:=hr.1;rw [dO]at this;omega
 unfold oK
 refine PF (.int .i64 (((n:Nat):Int))) ?_
 refine PF (.bool (decide (((n:Nat):Int)>512))) ?_
 refine PH (decide (((n:Nat):Int)>512)) (fun h2=>?_) (fun h2=>?_)
 ·try simp only [aJ]at h2
  exact PI (.int .i64 2) (by rw [cf,if_pos (by omega)])
 try simp only [aJ]at h2
 refine PF (.int .i64 (((n:Nat):Int))) ?_
 refine bC (fun xs=>∃ (i:Nat) (last:Int) (nk:Nat) (lk:List Qe) (nr:Nat) (lr:List Qe) (M:Int→Option bX) (G:Int→Option Unit),xs=[.int .i64 (i:Int),.int .i64 last,.agg (bL nk lk).toArray,.agg (bL nr lr).toArray]∧i≤n∧B0 ls i last lk lr M G) (fun xs=>match xs with|(.int _ i)::_=>n-i.toNat|_=>0) (fun α=>⟨0,-1,0,[],0,[],_,_,by kernel_rfl,by omega,C1 ls⟩) ?_
 rintro xs-⟨i,last,nk,lk,nr,lr,M,G,rfl,hin,hI⟩
 refine PF (.bool (decide (((i:Nat):Int)<((n:Nat):Int)))) ?_
 refine PH (decide (((i:Nat):Int)<((n:Nat):Int))) (fun h8=>?_) (fun h8=>?_)
 ·try simp only [aJ]at h8
  obtain⟨z,hz⟩:∃ z,ls[i]?=some z:=⟨_,List.getElem?_eq_getElem (by omega)⟩
  refine PQ A n c i hA (by omega) ?_
  refine PR (f:=aV) (l:=ls) (.agg (aV z).toArray) A n c i z hA (by omega) ⟨rfl,rfl,rfl⟩ hz ?_
  obtain⟨y,fd,hlook,hf1,hf2⟩:=zE hI (IntKind.i64.wrap (z.of_-1))
  obtain⟨rp,hlr,hrep⟩:=C8 hI z.of_
  obtain⟨nk2,lk2,hpk,hM2⟩:=hI.m.put kg nk z.no z
  obtain⟨nr2,lr2,hpr,hG2⟩:=hI.g.put kg nr z.of_ ()
  have hzf:=hfit z (List.mem_of_getElem? hz)
  have hno:∀ y'∈ls.take i,0≤y'.no∧y'.no≤1048576:=fun y' hy'=>by obtain⟨j,hj,hy'⟩:=gH hy';exact(ax.1 (hI.1 j y' hj hy').1).1
  refine PF (.int .i64 (IntKind.i64.wrap (z.of_-1))) ?_
  refine PG (.tuple #[.agg #[.int .i64 y.no,.int .i64 y.person,.int .i64 y.of_,.int .i64 y.from_,.int .i64 y.to_,.int .i64 y.known,.int .i64 y.kind,.int .i64 y.limb,.int .i64 y.n],.bool fd]) (fun α=>uN (nx:=nk) (i:=IntKind.i64.wrap (z.of_-1)) hI.m kg (fun _=>rfl) gP hI.mkk rfl (bq (by kernel_rfl)) (by kernel_rfl) (by rcases hlook with ⟨e1,e2⟩|⟨e1,e2,e3⟩<;>subst_vars<;>rw [e1]<;>rfl)) ?_
  refine PF (.bool (decide (z.no≤last))) ?_
  refine PH (decide (z.no≤last)) (fun h13=>?_) (fun h13=>?_)
  ·try simp only [aJ]at h13
   exact PI (.int .i64 340) (by rw [cf,if_neg (by omega),if_neg (bI hz fun hk=>by
    have ⟨hk1,hk2,hk3,hk4,hk5,hk6⟩:=ax.1 hk.1;have q:=(hI.la z.no).2 ⟨by omega,hk.2.1⟩;omega)])
  try simp only [aJ]at h13
  refine PF (.bool (decide (z.no>1048576))) ?_
  refine PH (decide (z.no>1048576)) (fun h14=>?_) (fun h14=>?_)
  ·try simp only [aJ]at h14
   exact PI (.int .i64 340) (by rw [cf,if_neg (by omega),if_neg (bI hz fun hk=>by
    have ⟨hk1,hk2,hk3,hk4,hk5,hk6⟩:=ax.1 hk.1;omega)])
  try simp only [aJ]at h14
  refine PF (.bool (decide (0≤z.person))) ?_
  refine PH (decide (0≤z.person)) (fun h15=>?_) (fun h15=>?_)
  ·try simp only [aJ]at h15
   refine PF (.bool (decide (z.person≤63))) ?_
   refine PF (.bool (!(decide (z.person≤63)))) ?_
   refine PH (!(decide (z.person≤63))) (fun h17=>?_) (fun h17=>?_)
   ·try simp only [aJ]at h17
    exact PI (.int .i64 340) (by rw [cf,if_neg (by omega),if_neg (bI hz fun hk=>by
     have ⟨hk1,hk2,hk3,hk4,hk5,hk6⟩:=ax.1 hk.1;have q:=h17;(try simp at q);omega)])
   try simp only [aJ]at h17
   refine PF (.bool (decide (z.from_<0))) ?_
   refine PH (decide (z.from_<0)) (fun h18=>?_) (fun h18=>?_)
   ·try simp only [aJ]at h18
    exact PI (.int .i64 340) (by rw [cf,if_neg (by omega),if_neg (bI hz fun hk=>by
     have ⟨hk1,hk2,hk3,hk4,hk5,hk6⟩:=ax.1 hk.1;omega)])
   try simp only [aJ]at h18
   refine PF (.bool (decide (z.from_>z.to_))) ?_
   refine PH (decide (z.from_>z.to_)) (fun h19=>?_) (fun h19=>?_)
   ·try simp only [aJ]at h19
    exact PI (.int .i64 340) (by rw [cf,if_neg (by omega),if_neg (bI hz fun hk=>by
     have ⟨hk1,hk2,hk3,hk4,hk5,hk6⟩:=ax.1 hk.1;omega)])
   try simp only [aJ]at h19
   refine PF (.bool (decide (z.to_>73048))) ?_
   refine PH (decide (z.to_>73048)) (fun h20=>?_) (fun h20=>?_)
   ·try simp only [aJ]at h20
    exact PI (.int .i64 340) (by rw [cf,if_neg (by omega),if_neg (bI hz fun hk=>by
     have ⟨hk1,hk2,hk3,hk4,hk5,hk6⟩:=ax.1 hk.1;omega)])
   try simp only [aJ]at h20
   refine PF (.bool (decide (0≤z.known))) ?_
   refine PH (decide (0≤z.known)) (fun h21=>?_) (fun h21=>?_)
   ·try simp only [aJ]at h21
    refine PF (.bool (decide (z.known≤134217727))) ?_
    refine PF (.bool (!(decide (z.known≤134217727)))) ?_
    refine PH (!(decide (z.known≤134217727))) (fun h23=>?_) (fun h23=>?_)
    ·try simp only [aJ]at h23
     exact PI (.int .i64 340) (by rw [cf,if_neg (by omega),if_neg (bI hz fun hk=>by
      have ⟨hk1,hk2,hk3,hk4,hk5,hk6⟩:=ax.1 hk.1;have q:=h23;(try simp at q);omega)])
    try simp only [aJ]at h23
    refine PG (.bool (decide (aL z.kind z.limb z.n))) (fun α=>⟨[⟨.agg #[.int .i64 z.kind,.int .i64 z.limb,.int .i64 z.n],0,[]⟩],PT,⟨rfl,_,_,_,rfl,rfl⟩,af rfl⟩) ?_
    refine PF (.bool (!(decide (aL z.kind z.limb z.n)))) ?_
    refine PH (!(decide (aL z.kind z.limb z.n))) (fun h25=>?_) (fun h25=>?_)
    ·try simp only [aJ]at h25
     refine PG (.bool (true ^^ decide ((z.kind,z.limb,z.n)=((0:Int),(0:Int),(0:Int))))) (fun α=>gv (f:=iL) jr (y:=(z.kind,z.limb,z.n)) (z:=((0:Int),(0:Int),(0:Int))) (by kernel_rfl) (by kernel_rfl) (by kernel_rfl)) ?_
     refine PH (true ^^ decide ((z.kind,z.limb,z.n)=((0:Int),(0:Int),(0:Int)))) (fun h26=>?_) (fun h26=>?_)
     ·try simp only [aJ]at h26
      exact PI (.int .i64 340) (by rw [cf,if_neg (by omega),if_neg (bI hz fun hk=>by
       have ⟨hk1,hk2,hk3,hk4,hk5,hk6⟩:=ax.1 hk.1;exact hk6.elim (fun h=>by have q:=h25;simp [h]at q) (fun h=>by have q:=h26;simp [h.1,h.2.1,h.2.2.1]at q))])
     try simp only [aJ]at h26
     refine PF (.bool ((z.of_:Int) == 0)) ?_
     refine PH ((z.of_:Int) == 0) (fun h27=>?_) (fun h27=>?_)
     ·try simp only [aJ]at h27
      exact PI (.int .i64 340) (by rw [cf,if_neg (by omega),if_neg (bI hz fun hk=>by
       have ⟨hk1,hk2,hk3,hk4,hk5,hk6⟩:=ax.1 hk.1;exact hk6.elim (fun h=>by have q:=h25;simp [h]at q) (fun h=>h.2.2.2 (by simpa using h27)))])
     try simp only [aJ]at h27
     refine PF (.bool ((z.of_:Int) != 0)) ?_
     refine PH ((z.of_:Int) != 0) (fun h28=>?_) (fun h28=>?_)
     ·try simp only [aJ]at h28
      refine PF (.bool (!(fd))) ?_
      refine PH (!(fd)) (fun h29=>?_) (fun h29=>?_)
      ·try simp only [aJ]at h29
       exact PI (.int .i64 340) (by rw [cf,if_neg (by omega),if_neg (bI hz fun hk=>by
        have hz0:z.of_≠0:=by simpa using h28
        obtain⟨hr1,y1,hy1,hy2,hy3,hy4⟩:=hk.2.2.resolve_left hz0
        exact hf2 (by simpa using h29) y1 hy1 ((kL hzf.1 hzf.2 (hno y1 hy1).1 (hno y1 hy1).2).2 hy2))])
      try simp only [aJ]at h29
      refine PG (.bool rp) (fun α=>uN (nx:=nr) (i:=z.of_) hI.g kg (fun _=>rfl) gP hI.gk rfl (bq (by kernel_rfl)) (by kernel_rfl) (by rcases hlr with ⟨e1,e2⟩|⟨e1,e2⟩<;>subst_vars<;>rw [e1]<;>rfl)) ?_
      refine PH rp (fun h30=>?_) (fun h30=>?_)
      ·try simp only [aJ]at h30
       exact PI (.int .i64 340) (by rw [cf,if_neg (by omega),if_neg (bI hz fun hk=>by
        have hz0:z.of_≠0:=by simpa using h28
        obtain⟨hr1,y1,hy1,hy2,hy3,hy4⟩:=hk.2.2.resolve_left hz0
        obtain⟨y2,hy5,hy6⟩:=hrep.1 h30;exact hr1 y2 hy5 hy6)])
      try simp only [aJ]at h30
      refine PF (.bool ((y.person:Int) != z.person)) ?_
      refine PH ((y.person:Int) != z.person) (fun h31=>?_) (fun h31=>?_)
      ·try simp only [aJ]at h31
       exact PI (.int .i64 340) (by rw [cf,if_neg (by omega),if_neg (bI hz fun hk=>by
        have hz0:z.of_≠0:=by simpa using h28
        obtain⟨hr1,y1,hy1,hy2,hy3,hy4⟩:=hk.2.2.resolve_left hz0
        have hyy:=BV hI.1 (hf1 (by simpa using h29)).1 hy1 (by rw [(hf1 (by simpa using h29)).2,(kL hzf.1 hzf.2 (hno y1 hy1).1 (hno y1 hy1).2).2 hy2]);subst hyy;have q:=h31;simp [hy3]at q)])
      try simp only [aJ]at h31
      refine PF (.bool (decide (y.known>z.known))) ?_
      refine PH (decide (y.known>z.known)) (fun h32=>?_) (fun h32=>?_)
      ·try simp only [aJ]at h32
       exact PI (.int .i64 340) (by rw [cf,if_neg (by omega),if_neg (bI hz fun hk=>by
        have hz0:z.of_≠0:=by simpa using h28
        obtain⟨hr1,y1,hy1,hy2,hy3,hy4⟩:=hk.2.2.resolve_left hz0
        have hyy:=BV hI.1 (hf1 (by simpa using h29)).1 hy1 (by rw [(hf1 (by simpa using h29)).2,(kL hzf.1 hzf.2 (hno y1 hy1).1 (hno y1 hy1).2).2 hy2]);subst hyy;omega)])
      try simp only [aJ]at h32
      refine PG (.agg (bL nk2 lk2).toArray) (fun α=>fW hI.m (fun _=>rfl) gP hI.mkk rfl (bq (by kernel_rfl)) (by kernel_rfl) (by kernel_rfl) hpk) ?_
      refine PG (.agg (bL nr2 lr2).toArray) (fun α=>fW hI.g (fun _=>rfl) gP hI.gk rfl (bq (by kernel_rfl)) (by kernel_rfl) (by kernel_rfl) hpr) ?_
      refine PG (.int .i64 (((i+1:Nat):Int))) (fun α=>PM i) ?_
      exact bk fun α=>⟨⟨i+1,z.no,nk2,lk2,nr2,lr2,_,_,by kernel_rfl,by omega,kX hI hz hpk hpr hM2 hG2 ⟨ax.2 ⟨(by have q1:=(hI.la z.no).1 (by omega);omega),(by have q:=h17;(try simp at q);omega),(by  omega),(by  omega),(by have q:=h23;(try simp at q);omega),.inr (by have q1:=h26;have q2:=h27;simp at q1 q2;exact⟨q1.1,q1.2.1,q1.2.2,q2⟩)⟩,((hI.la z.no).1 (by omega)).2,.inr ⟨fun y' hy' he=>by have q:=h30;rw [Bool.eq_false_iff]at q;exact q (hrep.2 ⟨y',hy',he⟩),y,(hf1 (by simpa using h29)).1,(kL hzf.1 hzf.2 (hno y (hf1 (by simpa using h29)).1).1 (hno y (hf1 (by simpa using h29)).1).2).1 (hf1 (by simpa using h29)).2,by simpa using h31,by omega⟩⟩⟩,cast (by kernel_rfl) (show n-((i+1:Nat):Int).toNat<n-(i:Int).toNat by omega)⟩
     try simp only [aJ]at h28
     refine PG (.agg (bL nk2 lk2).toArray) (fun α=>fW hI.m (fun _=>rfl) gP hI.mkk rfl (bq (by kernel_rfl)) (by kernel_rfl) (by kernel_rfl) hpk) ?_
     refine PG (.agg (bL nr2 lr2).toArray) (fun α=>fW hI.g (fun _=>rfl) gP hI.gk rfl (bq (by kernel_rfl)) (by kernel_rfl) (by kernel_rfl) hpr) ?_
     refine PG (.int .i64 (((i+1:Nat):Int))) (fun α=>PM i) ?_
     exact bk fun α=>⟨⟨i+1,z.no,nk2,lk2,nr2,lr2,_,_,by kernel_rfl,by omega,kX hI hz hpk hpr hM2 hG2 ⟨ax.2 ⟨(by have q1:=(hI.la z.no).1 (by omega);omega),(by have q:=h17;(try simp at q);omega),(by  omega),(by  omega),(by have q:=h23;(try simp at q);omega),.inr (by have q1:=h26;have q2:=h27;simp at q1 q2;exact⟨q1.1,q1.2.1,q1.2.2,q2⟩)⟩,((hI.la z.no).1 (by omega)).2,.inl (by simpa using h28)⟩⟩,cast (by kernel_rfl) (show n-((i+1:Nat):Int).toNat<n-(i:Int).toNat by omega)⟩
    try simp only [aJ]at h25
    refine PF (.bool ((z.of_:Int) != 0)) ?_
    refine PH ((z.of_:Int) != 0) (fun h26=>?_) (fun h26=>?_)
    ·try simp only [aJ]at h26
     refine PF (.bool (!(fd))) ?_
     refine PH (!(fd)) (fun h27=>?_) (fun h27=>?_)
     ·try simp only [aJ]at h27
      exact PI (.int .i64 340) (by rw [cf,if_neg (by omega),if_neg (bI hz fun hk=>by
       have hz0:z.of_≠0:=by simpa using h26
       obtain⟨hr1,y1,hy1,hy2,hy3,hy4⟩:=hk.2.2.resolve_left hz0
       exact hf2 (by simpa using h27) y1 hy1 ((kL hzf.1 hzf.2 (hno y1 hy1).1 (hno y1 hy1).2).2 hy2))])
     try simp only [aJ]at h27
     refine PG (.bool rp) (fun α=>uN (nx:=nr) (i:=z.of_) hI.g kg (fun _=>rfl) gP hI.gk rfl (bq (by kernel_rfl)) (by kernel_rfl) (by rcases hlr with ⟨e1,e2⟩|⟨e1,e2⟩<;>subst_vars<;>rw [e1]<;>rfl)) ?_
     refine PH rp (fun h28=>?_) (fun h28=>?_)
     ·try simp only [aJ]at h28
      exact PI (.int .i64 340) (by rw [cf,if_neg (by omega),if_neg (bI hz fun hk=>by
       have hz0:z.of_≠0:=by simpa using h26
       obtain⟨hr1,y1,hy1,hy2,hy3,hy4⟩:=hk.2.2.resolve_left hz0
       obtain⟨y2,hy5,hy6⟩:=hrep.1 h28;exact hr1 y2 hy5 hy6)])
     try simp only [aJ]at h28
     refine PF (.bool ((y.person:Int) != z.person)) ?_
     refine PH ((y.person:Int) != z.person) (fun h29=>?_) (fun h29=>?_)
     ·try simp only [aJ]at h29
      exact PI (.int .i64 340) (by rw [cf,if_neg (by omega),if_neg (bI hz fun hk=>by
       have hz0:z.of_≠0:=by simpa using h26
       obtain⟨hr1,y1,hy1,hy2,hy3,hy4⟩:=hk.2.2.resolve_left hz0
       have hyy:=BV hI.1 (hf1 (by simpa using h27)).1 hy1 (by rw [(hf1 (by simpa using h27)).2,(kL hzf.1 hzf.2 (hno y1 hy1).1 (hno y1 hy1).2).2 hy2]);subst hyy;have q:=h29;simp [hy3]at q)])
     try simp only [aJ]at h29
     refine PF (.bool (decide (y.known>z.known))) ?_
     refine PH (decide (y.known>z.known)) (fun h30=>?_) (fun h30=>?_)
     ·try simp only [aJ]at h30
      exact PI (.int .i64 340) (by rw [cf,if_neg (by omega),if_neg (bI hz fun hk=>by
       have hz0:z.of_≠0:=by simpa using h26
       obtain⟨hr1,y1,hy1,hy2,hy3,hy4⟩:=hk.2.2.resolve_left hz0
       have hyy:=BV hI.1 (hf1 (by simpa using h27)).1 hy1 (by rw [(hf1 (by simpa using h27)).2,(kL hzf.1 hzf.2 (hno y1 hy1).1 (hno y1 hy1).2).2 hy2]);subst hyy;omega)])
     try simp only [aJ]at h30
     refine PG (.agg (bL nk2 lk2).toArray) (fun α=>fW hI.m (fun _=>rfl) gP hI.mkk rfl (bq (by kernel_rfl)) (by kernel_rfl) (by kernel_rfl) hpk) ?_
     refine PG (.agg (bL nr2 lr2).toArray) (fun α=>fW hI.g (fun _=>rfl) gP hI.gk rfl (bq (by kernel_rfl)) (by kernel_rfl) (by kernel_rfl) hpr) ?_
     refine PG (.int .i64 (((i+1:Nat):Int))) (fun α=>PM i) ?_
     exact bk fun α=>⟨⟨i+1,z.no,nk2,lk2,nr2,lr2,_,_,by kernel_rfl,by omega,kX hI hz hpk hpr hM2 hG2 ⟨ax.2 ⟨(by have q1:=(hI.la z.no).1 (by omega);omega),(by have q:=h17;(try simp at q);omega),(by  omega),(by  omega),(by have q:=h23;(try simp at q);omega),.inl (by simpa using h25)⟩,((hI.la z.no).1 (by omega)).2,.inr ⟨fun y' hy' he=>by have q:=h28;rw [Bool.eq_false_iff]at q;exact q (hrep.2 ⟨y',hy',he⟩),y,(hf1 (by simpa using h27)).1,(kL hzf.1 hzf.2 (hno y (hf1 (by simpa using h27)).1).1 (hno y (hf1 (by simpa using h27)).1).2).1 (hf1 (by simpa using h27)).2,by simpa using h29,by omega⟩⟩⟩,cast (by kernel_rfl) (show n-((i+1:Nat):Int).toNat<n-(i:Int).toNat by omega)⟩
    try simp only [aJ]at h26
    refine PG (.agg (bL nk2 lk2).toArray) (fun α=>fW hI.m (fun _=>rfl) gP hI.mkk rfl (bq (by kernel_rfl)) (by kernel_rfl) (by kernel_rfl) hpk) ?_
    refine PG (.agg (bL nr2 lr2).toArray) (fun α=>fW hI.g (fun _=>rfl) gP hI.gk rfl (bq (by kernel_rfl)) (by kernel_rfl) (by kernel_rfl) hpr) ?_
    refine PG (.int .i64 (((i+1:Nat):Int))) (fun α=>PM i) ?_
    exact bk fun α=>⟨⟨i+1,z.no,nk2,lk2,nr2,lr2,_,_,by kernel_rfl,by omega,kX hI hz hpk hpr hM2 hG2 ⟨ax.2 ⟨(by have q1:=(hI.la z.no).1 (by omega);omega),(by have q:=h17;(try simp at q);omega),(by  omega),(by  omega),(by have q:=h23;(try simp at q);omega),.inl (by simpa using h25)⟩,((hI.la z.no).1 (by omega)).2,.inl (by simpa using h26)⟩⟩,cast (by kernel_rfl) (show n-((i+1:Nat):Int).toNat<n-(i:Int).toNat by omega)⟩
   try simp only [aJ]at h21
   exact PI (.int .i64 340) (by rw [cf,if_neg (by omega),if_neg (bI hz fun hk=>by
    have ⟨hk1,hk2,hk3,hk4,hk5,hk6⟩:=ax.1 hk.1;omega)])
  try simp only [aJ]at h15
  exact PI (.int .i64 340) (by rw [cf,if_neg (by omega),if_neg (bI hz fun hk=>by
   have ⟨hk1,hk2,hk3,hk4,hk5,hk6⟩:=ax.1 hk.1;omega)])
 try simp only [aJ]at h8
 exact PI (.int .i64 0) (by rw [cf,if_neg (by omega),if_pos (xA hI.1 (by omega))])
def H8(ls:List bX)(person:Int):Prop:=cf ls=0∧∀ y∈ls,y.person=person
noncomputable instance (ls:List bX) (person:Int):Decidable (H8 ls person):=Classical.propDecidable _
def Pc(f:FuncId)(xs:List SX.Arg)(v:Value):Prop:=f=74∧∃ (u:Value) (ls:List bX),xs=[⟨u,9,dn ls⟩]∧ls.length≤9223372036854775807∧gm ls∧v=.int .i64 (cf ls)
noncomputable def L8(K A:PZ):SX.Cx:={ P:=Tryz.prog,R:=fun _=>Pc,shp:=fun f=>if f=74 then some .one else none,K:=K,A:=A,trm:=true }
theorem Oq(K A:PZ):(L8 K A).Ok:=by
 refine SX.Cx.bP (fun _=>rfl) ?_
 intro K f xs v W hR hrd hKf
 obtain⟨rfl,u,ls,rfl,hl,hf,rfl⟩:=hR
 obtain⟨A,n,c,rfl,h2,h3,h4⟩:=eF (hrd ⟨u,9,dn ls⟩ (by simp))
 exact(zA ls A n c W h2 (by omega) h3 hf).mono fun e w' h=>al rfl h
def ri:SX.Tree :=
(.df (.call 74 [(.ext 9)]) [(.q 0)] .one
(.df (.bin .eql 32) [(.q 2),(.i 0)] .one
(.br 3 []
(.df (.len false) [(.q 0)] .one
(.loop [(.i 0)] [.one]
(.df (.bin .lss 3) [(.q 5),(.q 4)] .one
(.br 6 []
(.df .bnd [(.q 0),(.q 5)] .one
(.df (.elems 9 0 9) [(.q 0),(.q 5)] (.ag 9)
(.df (.bin .neq 3) [(.x 8 [1]),(.q 1)] .one
(.br 9 []
(.df (.bin .geq 3) [(.q 5),(.i 0)] .one
(.df .not [(.q 10)] .one
(.ret (.q 11) [] [])))
(.df (.bin .add 3) [(.q 5),(.i 1)] .one
(.again 0 [(.q 10)]))))))
(.ret (.k (.bool true)) [] [])))))
(.ret (.k (.bool false)) [] []))))
def yI:List SX.V:=[.x 0 [],.x 1 []]
def Ik:jl:=⟨fun f=>true,[⟨108,2,[(.s 8,.one)]⟩],0,100⟩
theorem DV(K A:PZ):PY (L8 K A) Ik 39 Tryz.f39 yI [.one,.one]=ri:=by kernel_rfl
theorem qb(ls:List bX)(person:Int)(A:Option Addr)(n c:Nat)(w:World)(hr:Rd w 9 A n (dn ls))(hc:n≤c)(hl:n≤1000000000)(hf:gm ls):RT 39 #[.slice A n c,.int .i64 person] w (.bool (decide (H8 ls person))):=by
 refine PK (DV (KW w) P0) [.slice A n c,.int .i64 person] (Oq _ _) Tryz.func39 ?_ ?_
 ·exact fun W hW v z xs h=>h W hW
 have hA:=SX.rd_some hr
 have hln:ls.length=n:=by have:=hr.1;rw [dO]at this;omega
 have hK1:KW w (.slice A n c) 9 (dn ls):=fun W hW=>⟨hr.aD hW,hc⟩
 unfold ri
 refine PG (.int .i64 (cf ls)) (fun α=>⟨[⟨.slice A n c,9,dn ls⟩],⟨by kernel_rfl,rfl,cast (by kernel_rfl) hK1,trivial⟩,⟨rfl,_,ls,rfl,by omega,hf,rfl⟩,af rfl⟩) ?_
 refine PF (.bool (decide (cf ls=0))) ?_
 refine PH (decide (cf ls=0)) (fun h3=>?_) (fun h3=>?_)
 ·have h3:cf ls=0:=by simpa using h3
  refine PF (.int .i64 (n:Int)) ?_
  refine bC (fun xs=>∃ k:Nat,k≤n∧xs=[.int .i64 (k:Int)]∧∀ y∈ls.take k,y.person=person) (fun xs=>match xs with|.int _ k::_=>n-k.toNat|_=>0) (fun α=>⟨0,by omega,by kernel_rfl,by simp⟩) ?_
  rintro xs-⟨k,hk,rfl,hI⟩
  refine PJ (.bool (decide (k<n))) (cW k n) ?_
  refine PH (decide (k<n)) (fun h1=>?_) (fun h1=>?_)
  ·have h1:k<n:=by simpa using h1
   obtain⟨z,hz⟩:∃ z,ls[k]?=some z:=⟨_,List.getElem?_eq_getElem (by omega)⟩
   refine PQ A n c k hA h1 ?_
   refine PR (f:=aV) (l:=ls) (hO z) A n c k z hA h1 (cast (by kernel_rfl) hK1) hz ?_
   refine PF (.bool ((z.person:Int) != person)) ?_
   refine PH ((z.person:Int) != person) (fun h2=>?_) (fun h2=>?_)
   ·have h2:z.person≠person:=by simpa using h2
    have hno:decide (H8 ls person)=false:=decide_eq_false fun h=>h2 (h.2 z (List.mem_of_getElem? hz))
    refine PJ (.bool (decide (0≤k))) (iy k 0) ?_
    refine PF (.bool (!decide (0≤k))) ?_
    rw [hno]
    exact PI (.bool (!decide (0≤k))) (by simp)
   have h2:z.person=person:=by simpa using h2
   refine PJ (.int .i64 ((k+1:Nat):Int)) (db (a:=k) (b:=1) (d:=k+1) rfl (by omega)) ?_
   exact bg rfl (fun α=>⟨k+1,by omega,by kernel_rfl,(gB hz).2 ⟨hI,h2⟩⟩) (fun α=>cast (by kernel_rfl) (show n-((k+1:Nat):Int).toNat<n-(k:Int).toNat by omega))
  have h1:¬ k<n:=by simpa using h1
  have hyes:decide (H8 ls person)=true:=decide_eq_true ⟨h3,by rw [List.take_of_length_le (by omega)]at hI;exact hI⟩
  rw [hyes]
  exact PI (.bool true) rfl
 have h3:¬ cf ls=0:=by simpa using h3
 have hno:decide (H8 ls person)=false:=decide_eq_false fun h=>h3 h.1
 rw [hno]
 exact PI (.bool false) rfl
def ga(s:Int):Prop:=0≤s∧s≤1099511627776
def aQ(ls:List bX)(ss:List Int)(person:Int):Prop:=1≤ls.length∧ls.length≤64∧ss.length=ls.length∧H8 ls person∧∀ s∈ss,ga s
noncomputable instance (ls:List bX) (ss:List Int) (person:Int):Decidable (aQ ls ss person):=Classical.propDecidable _
theorem dy(l:List Int):(fw l).length=l.length:=by have:=SX.aB (f:=fun k:Int=>[Value.int .i64 k]) (sz:=1) (fun _=>rfl) l;rw [Nat.mul_one]at this;exact this
theorem HE{β:Type}{l:List β}{i:Nat}{z:β}(hz:l[i]?=some z){P:β→Prop}(h:∀ q∈l.take i,P q)(hp:P z):∀ q∈l.take (i+1),P q:=fun q hq=>by
 rw [List.take_add_one,hz]at hq
 rcases List.mem_append.1 hq with hq|hq
 ·exact h q hq
 have:q=z:=by simpa using hq
 rw [this];exact hp
def Pd(f:FuncId)(xs:List SX.Arg)(v:Value):Prop:=f=39∧∃ (u:Value) (ls:List bX) (person:Int),xs=[⟨u,9,dn ls⟩,⟨.int .i64 person,0,[]⟩]∧ls.length≤1000000000∧gm ls∧v=.bool (decide (H8 ls person))
noncomputable def L9(K A:PZ):SX.Cx:={ P:=Tryz.prog,R:=fun _=>Pd,shp:=fun f=>if f=39 then some .one else none,K:=K,A:=A,trm:=true }
theorem Ot(K A:PZ):(L9 K A).Ok:=by
 refine SX.Cx.bP (fun _=>rfl) ?_
 intro K f xs v W hR hrd hKf
 obtain⟨rfl,u,ls,person,rfl,hl,hf,rfl⟩:=hR
 obtain⟨A,n,c,rfl,h2,h3,h4⟩:=eF (hrd ⟨u,9,dn ls⟩ (by simp))
 exact(qb ls person A n c W h2 h3 (by omega) hf).mono fun e w' h=>al rfl h
def oI:SX.Tree :=
(.df (.len false) [(.q 0)] .one
(.df (.bin .geq 3) [(.q 3),(.i 1)] .one
(.br 4 []
(.df (.len false) [(.q 0)] .one
(.df (.bin .leq 3) [(.q 5),(.i 64)] .one
(.br 6 []
(.df (.len false) [(.q 1)] .one
(.df (.len false) [(.q 0)] .one
(.df (.bin .eql 3) [(.q 7),(.q 8)] .one
(.br 9 []
(.df (.call 39 [(.ext 9),.no]) [(.q 0),(.q 2)] .one
(.br 10 []
(.df (.len false) [(.q 1)] .one
(.loop [(.i 0)] [.one]
(.df (.bin .lss 3) [(.q 12),(.q 11)] .one
(.br 13 []
(.df .bnd [(.q 1),(.q 12)] .one
(.df (.elem 1 0) [(.q 1),(.q 12)] .one
(.df (.bin .geq 3) [(.q 15),(.i 0)] .one
(.br 16 []
(.df (.bin .leq 3) [(.q 15),(.i 1099511627776)] .one
(.df .not [(.q 17)] .one
(.br 18 []
(.df (.bin .geq 3) [(.q 12),(.i 0)] .one
(.df .not [(.q 19)] .one
(.ret (.q 20) [] [])))
(.df (.bin .add 3) [(.q 12),(.i 1)] .one
(.again 0 [(.q 19)])))))
(.df (.bin .geq 3) [(.q 12),(.i 0)] .one
(.df .not [(.q 17)] .one
(.ret (.q 18) [] [])))))))
(.ret (.k (.bool true)) [] [])))))
(.ret (.k (.bool false)) [] [])))
(.ret (.k (.bool false)) [] [])))))
(.ret (.k (.bool false)) [] []))))
(.ret (.k (.bool false)) [] []))))
def wg:List SX.V:=[.a [.x 0 [],.x 1 []],.x 2 []]
def E9:jl:=⟨fun f=>true,[⟨77,2,[(.s 8,.one)]⟩],0,100⟩
theorem Al(K A:PZ):PY (L9 K A) E9 17 Tryz.f17 wg [.one,.one,.one]=oI:=by kernel_rfl
theorem tg(ls:List bX)(ss:List Int)(person:Int)(A:Option Addr)(n c:Nat)(B:Option Addr)(m d:Nat)(w:World)(hr:Rd w 9 A n (dn ls))(hc:n≤c)(hr2:Rd w 1 B m (fw ss))(hd:m≤d)(hl:n≤1000000000)(hm:m≤1000000000)(hf:gm ls):RT 17 #[.agg #[.slice A n c,.slice B m d],.int .i64 person] w (.bool (decide (aQ ls ss person))):=by
 refine PK (Al (KW w) P0) [.slice A n c,.slice B m d,.int .i64 person] (Ot _ _) Tryz.func17 ?_ ?_
 ·exact fun W hW v z xs h=>h W hW
 have hB:=SX.rd_some hr2
 have hln:ls.length=n:=by have:=hr.1;rw [dO]at this;omega
 have hlm:ss.length=m:=by have:=hr2.1;rw [dy]at this;omega
 have hK1:KW w (.slice A n c) 9 (dn ls):=fun W hW=>⟨hr.aD hW,hc⟩
 have hK2:KW w (.slice B m d) 1 (fw ss):=fun W hW=>⟨hr2.aD hW,hd⟩
 unfold oI
 refine PF (.int .i64 (n:Int)) ?_
 refine PJ (.bool (decide (1≤n))) (iy n 1) ?_
 refine PH (decide (1≤n)) (fun g1=>?_) (fun g1=>?_)
 case refine_2 =>
  have g1:¬ 1≤n:=by simpa using g1
  rw [decide_eq_false fun h:aQ ls ss person=>g1 (by have:=h.1;omega)]
  exact PI (.bool false) rfl
 have g1:1≤n:=by simpa using g1
 refine PF (.int .i64 (n:Int)) ?_
 refine PF (.bool (decide ((n:Int)≤64))) ?_
 refine PH (decide ((n:Int)≤64)) (fun g2=>?_) (fun g2=>?_)
 case refine_2 =>
  have g2:¬ (n:Int)≤64:=by simpa using g2
  rw [decide_eq_false fun h:aQ ls ss person=>g2 (by have:=h.2.1;omega)]
  exact PI (.bool false) rfl
 have g2:(n:Int)≤64:=by simpa using g2
 refine PF (.int .i64 (m:Int)) ?_
 refine PF (.int .i64 (n:Int)) ?_
 refine PF (.bool (decide ((m:Int)=(n:Int)))) ?_
 refine PH (decide ((m:Int)=(n:Int))) (fun g3=>?_) (fun g3=>?_)
 case refine_2 =>
  have g3:¬ (m:Int)=(n:Int):=by simpa using g3
  rw [decide_eq_false fun h:aQ ls ss person=>g3 (by have:=h.2.2.1;omega)]
  exact PI (.bool false) rfl
 have g3:(m:Int)=(n:Int):=of_decide_eq_true g3
 refine PG (.bool (decide (H8 ls person))) (fun α=>⟨[⟨.slice A n c,9,dn ls⟩,⟨.int .i64 person,0,[]⟩],⟨by kernel_rfl,rfl,cast (by kernel_rfl) hK1,by kernel_rfl,by kernel_rfl,trivial⟩,⟨rfl,_,ls,person,rfl,by omega,hf,rfl⟩,af rfl⟩) ?_
 refine PH (decide (H8 ls person)) (fun g4=>?_) (fun g4=>?_)
 case refine_2 =>
  rw [decide_eq_false fun h:aQ ls ss person=>(of_decide_eq_false g4) h.2.2.2.1]
  exact PI (.bool false) rfl
 have g4:H8 ls person:=of_decide_eq_true g4
 refine PF (.int .i64 (m:Int)) ?_
 refine bC (fun xs=>∃ k:Nat,k≤m∧xs=[.int .i64 (k:Int)]∧∀ s∈ss.take k,ga s) (fun xs=>match xs with|.int _ k::_=>m-k.toNat|_=>0) (fun α=>⟨0,by omega,by kernel_rfl,by simp⟩) ?_
 rintro xs-⟨k,hk,rfl,hI⟩
 refine PJ (.bool (decide (k<m))) (cW k m) ?_
 refine PH (decide (k<m)) (fun h1=>?_) (fun h1=>?_)
 ·have h1:k<m:=by simpa using h1
  obtain⟨s,hs⟩:∃ s,ss[k]?=some s:=⟨_,List.getElem?_eq_getElem (by omega)⟩
  refine PQ B m d k hB h1 ?_
  refine PG (.int .i64 s) (fun α=>bx (o:=0) (v:=.int .i64 s) (f:=fun k:Int=>[Value.int .i64 k]) (l:=ss) (A:=B) (n:=m) (c:=d) (j:=k) (z:=s) (fun _=>rfl) hB (by kernel_rfl) (by kernel_rfl) h1 (cast (by kernel_rfl) hK2) hs (by decide) (by kernel_rfl)) ?_
  refine PF (.bool (decide (s≥0))) ?_
  refine PH (decide (s≥0)) (fun h2=>?_) (fun h2=>?_)
  ·have h2:s≥0:=by simpa using h2
   refine PF (.bool (decide (s≤1099511627776))) ?_
   refine PF (.bool (!decide (s≤1099511627776))) ?_
   refine PH (!decide (s≤1099511627776)) (fun h3=>?_) (fun h3=>?_)
   ·have h3:¬ s≤1099511627776:=by simpa using h3
    refine PJ (.bool (decide (0≤k))) (iy k 0) ?_
    refine PF (.bool (!decide (0≤k))) ?_
    rw [decide_eq_false fun h:aQ ls ss person=>h3 (h.2.2.2.2 s (List.mem_of_getElem? hs)).2]
    exact PI (.bool (!decide (0≤k))) (by simp)
   have h3:s≤1099511627776:=by simpa using h3
   refine PJ (.int .i64 ((k+1:Nat):Int)) (db (a:=k) (b:=1) (d:=k+1) rfl (by omega)) ?_
   exact bg rfl (fun α=>⟨k+1,by omega,by kernel_rfl,HE hs hI ⟨h2,h3⟩⟩) (fun α=>cast (by kernel_rfl) (show m-((k+1:Nat):Int).toNat<m-(k:Int).toNat by omega))
  have h2:¬ s≥0:=by simpa using h2
  refine PJ (.bool (decide (0≤k))) (iy k 0) ?_
  refine PF (.bool (!decide (0≤k))) ?_
  rw [decide_eq_false fun h:aQ ls ss person=>h2 (h.2.2.2.2 s (List.mem_of_getElem? hs)).1]
  exact PI (.bool (!decide (0≤k))) (by simp)
 have h1:¬ k<m:=by simpa using h1
 have hyes:aQ ls ss person:=⟨by omega,by omega,by omega,g4,by rw [List.take_of_length_le (by omega)]at hI;exact hI⟩
 rw [decide_eq_true hyes]
 exact PI (.bool true) rfl
noncomputable instance (s:Int):Decidable (ga s):=Classical.propDecidable _
theorem AO:∀ a b:List W8,a.map w8=b.map w8→a=b:=fun a b h=>(List.map_inj_right fun x y e=>by
 have:(x.toNat:Int)=(y.toNat:Int):=by simpa [w8]using e
 exact BitVec.eq_of_toNat_eq (by omega)).1 h
def rm:SX.Tree :=
(.df (.bin .geq 3) [(.q 0),(.i 0)] .one
(.br 1 []
(.df (.bin .leq 3) [(.q 0),(.i 1099511627776)] .one
(.ret (.q 2) [] []))
(.ret (.k (.bool false)) [] [])))
def yM:List SX.V:=[.x 0 []]
theorem D0(K A:PZ):PY (wQ K A) ⟨fun f=>true,[],0,100⟩ 42 Tryz.f42 yM [.one]=rm:=by kernel_rfl
theorem Hj(s:Int)(w:World):RT 42 #[.int .i64 s] w (.bool (decide (ga s))):=by
 refine PK (D0 P0 P0) [.int .i64 s] (js _ _) Tryz.func42 (fun _ _ _ _ _ h=>h.elim) ?_
 unfold rm
 refine PF (.bool (decide (s≥0))) ?_
 refine PH (decide (s≥0)) (fun h1=>?_) (fun h1=>?_)
 ·have h1:s≥0:=by simpa using h1
  refine PF (.bool (decide (s≤1099511627776))) ?_
  have e:decide (ga s)=decide (s≤1099511627776):=by
   by_cases h:s≤1099511627776
   ·have h2:ga s:=⟨h1,h⟩
    rw [decide_eq_true h,decide_eq_true h2]
   rw [decide_eq_false h,decide_eq_false fun h2:ga s=>h h2.2]
  rw [e]
  exact PI (.bool (decide (s≤1099511627776))) rfl
 have h1:¬ s≥0:=by simpa using h1
 rw [decide_eq_false fun h2:ga s=>h1 h2.1]
 exact PI (.bool false) rfl
def eQ(person count:Int)(root:Dg)(k s:Int)(x:bX)(p:List Dg):Prop:=1≤count∧count≤64∧0≤k∧k<count∧ga s∧x.person=person∧∃ d,bV count.toNat k.toNat (fA (kY (aI (aU k x s)))) p=some d∧eE d=eE root
noncomputable instance (person count:Int) (root:Dg) (k s:Int) (x:bX) (p:List Dg):Decidable (eQ person count root k s x p):=Classical.propDecidable _
def Ju:FuncId→Option SX.Sh:=fun f=>if f∈[74,39,17,42,37,30]then some .one else if f∈[32,21]then some (.sl 1)else if f=65 then some (.tp [.ag 32,.one])else if f=18 then some (.ag 32)else if f=27 then some (.tp [.sl 32,.one])else if f=20 then some (.tp [.ag 2,.one])else none
def Pe(K:PZ)(f:FuncId)(xs:List SX.Arg)(v:Value):Prop :=
 (f=42∧∃ s:Int,xs=[⟨.int .i64 s,0,[]⟩]∧v=.bool (decide (ga s))) ∨
 (f=32∧∃ (k s:Int) (x:bX),xs=[⟨.int .i64 k,0,[]⟩,⟨hO x,0,[]⟩,⟨.int .i64 s,0,[]⟩]∧(∀ z∈aU k x s,z.fits)∧v=.agg ((aI (aU k x s)).flatMap c8).toArray) ∨
 (f=65∧b5 K∧∃ (n i:Nat) (u u2:Value) (X:List W8) (p:List Dg),xs=[⟨.int .i64 (n:Int),0,[]⟩,⟨.int .i64 (i:Int),0,[]⟩,⟨u,1,X.flatMap c8⟩,⟨u2,32,aT p⟩]∧i<n∧n≤65536∧X≠[]∧X.length≤17592186044416∧v=zh (bV n i (fA (kY X)) p))
noncomputable def Ma(K A:PZ):SX.Cx:={ P:=Tryz.prog,R:=Pe,shp:=Ju,K:=K,A:=A,trm:=true }
theorem Ou(K A:PZ):(Ma K A).Ok:=by
 refine SX.Cx.bP (fun _=>rfl) ?_
 intro K f xs v W hR hrd hKf
 rcases hR with ⟨rfl,s,rfl,rfl⟩|⟨rfl,k,s,x,rfl,hf,rfl⟩|⟨rfl,hL,n,i,u,u2,X,p,rfl,hi,hn,hX,hXl,rfl⟩
 ·exact(Hj s W).mono fun e w' h=>al rfl h
 ·exact Calls.mono (xi k s x W hf) fun e w' h=>az.uS rfl h
 obtain⟨A,a,e,rfl,h1,h2⟩:=bG (hrd ⟨u,1,X.flatMap c8⟩ (by simp))
 obtain⟨B,m,c,rfl,h3,h4⟩:=bG (hrd ⟨u2,32,aT p⟩ (by simp))
 exact(CD n i X p A a e B m c W hi hn h1 h2 hX hXl h3 h4 (cV hL hKf)).mono fun e w' h=>al rfl h
def rh:SX.Tree :=
(.df (.bin .lss 3) [(.x 0 [1]),(.i 1)] .one
(.br 3 []
(.ret (.k (.bool false)) [] [])
(.df (.bin .gtr 3) [(.x 0 [1]),(.i 64)] .one
(.br 4 []
(.ret (.k (.bool false)) [] [])
(.df (.bin .lss 3) [(.x 1 [0]),(.i 0)] .one
(.br 5 []
(.ret (.k (.bool false)) [] [])
(.df (.bin .geq 3) [(.x 1 [0]),(.x 0 [1])] .one
(.br 6 []
(.ret (.k (.bool false)) [] [])
(.df (.call 42 [.no]) [(.x 1 [1])] .one
(.df .not [(.q 7)] .one
(.br 8 []
(.ret (.k (.bool false)) [] [])
(.df (.bin .neq 3) [(.x 1 [3]),(.x 0 [0])] .one
(.br 9 []
(.ret (.k (.bool false)) [] [])
(.df (.call 32 [.no,.no,.no]) [(.x 1 [0]),(.a (PN 1 2 9)),(.x 1 [1])] (.sl 1)
(.df (.call 65 [.no,.no,(.row 1 [(.q 10)]),(.ext 32)]) [(.x 0 [1]),(.x 1 [0]),(.row 12),(.q 2)] (.tp [(.ag 32),.one])
(.df (.bin .eql 32) [(.x 11 [1]),(.i 0)] .one
(.br 12 []
(.df (.eqr false 32 (PP 32 (.i .u8))) [(.x 11 [0,0]),(.x 11 [0,1]),(.x 11 [0,2]),(.x 11 [0,3]),(.x 11 [0,4]),(.x 11 [0,5]),(.x 11 [0,6]),(.x 11 [0,7]),(.x 11 [0,8]),(.x 11 [0,9]),(.x 11 [0,10]),(.x 11 [0,11]),(.x 11 [0,12]),(.x 11 [0,13]),(.x 11 [0,14]),(.x 11 [0,15]),(.x 11 [0,16]),(.x 11 [0,17]),(.x 11 [0,18]),(.x 11 [0,19]),(.x 11 [0,20]),(.x 11 [0,21]),(.x 11 [0,22]),(.x 11 [0,23]),(.x 11 [0,24]),(.x 11 [0,25]),(.x 11 [0,26]),(.x 11 [0,27]),(.x 11 [0,28]),(.x 11 [0,29]),(.x 11 [0,30]),(.x 11 [0,31]),(.x 0 [2]),(.x 0 [3]),(.x 0 [4]),(.x 0 [5]),(.x 0 [6]),(.x 0 [7]),(.x 0 [8]),(.x 0 [9]),(.x 0 [10]),(.x 0 [11]),(.x 0 [12]),(.x 0 [13]),(.x 0 [14]),(.x 0 [15]),(.x 0 [16]),(.x 0 [17]),(.x 0 [18]),(.x 0 [19]),(.x 0 [20]),(.x 0 [21]),(.x 0 [22]),(.x 0 [23]),(.x 0 [24]),(.x 0 [25]),(.x 0 [26]),(.x 0 [27]),(.x 0 [28]),(.x 0 [29]),(.x 0 [30]),(.x 0 [31]),(.x 0 [32]),(.x 0 [33])] .one
(.ret (.q 13) [] []))
(.ret (.k (.bool false)) [] []))))))))))))))))))
def yH:List SX.V:=[.a ([.x 0 [0],.x 0 [1]]++((List.range 32).map fun j=>.x 0 [2+j])++[.x 0 [34],.x 0 [35]]),.a ([.x 1 [0],.x 1 [1]]++((List.range 9).map fun j=>.x 1 [2+j])++[.x 2 []])]
theorem DU(K A:PZ):PY (Ma K A) ⟨fun f=>true,[],0,100⟩ 30 Tryz.f30 yH [.ag 36,.ag 11,.one]=rh:=by kernel_rfl
def dm(k s:Int)(x:bX)(hdr:Value):Value:=.agg ([Value.int .i64 k,Value.int .i64 s]++aV x++[hdr]).toArray
theorem wY(person count E S:Int)(root:Dg)(k s:Int)(x:bX)(p:List Dg)(B:Option Addr)(m c:Nat)(w:World)(hr:Rd w 32 B m (aT p))(hc:m≤c)(hf:∀ z∈aU k x s,z.fits)(hlaid:Laid w):RT 30 #[bp person count root E S,dm k s x (.slice B m c)] w (.bool (decide (eQ person count root k s x p))):=by
 refine PK (DU (KW w) P0) [bp person count root E S,.agg ([Value.int .i64 k,Value.int .i64 s]++aV x).toArray,.slice B m c] (Ou _ _) Tryz.func30 ?_ ?_
 ·exact fun W hW v z xs h=>h W hW
 have hL:b5 (KW w):=fL hlaid
 have hK1:KW w (.slice B m c) 32 (aT p):=fun W hW=>⟨hr.aD hW,hc⟩
 unfold rh
 refine PF (.bool (decide (count<1))) ?_
 refine PH (decide (count<1)) (fun g=>?_) (fun g1=>?_)
 ·rw [decide_eq_false fun h:eQ person count root k s x p=>absurd (of_decide_eq_true g) (by have:=h.1;omega)]
  exact PI (.bool false) rfl
 have g1:=of_decide_eq_false g1
 refine PF (.bool (decide (count>64))) ?_
 refine PH (decide (count>64)) (fun g=>?_) (fun g2=>?_)
 ·rw [decide_eq_false fun h:eQ person count root k s x p=>absurd (of_decide_eq_true g) (by have:=h.2.1;omega)]
  exact PI (.bool false) rfl
 have g2:=of_decide_eq_false g2
 refine PF (.bool (decide (k<0))) ?_
 refine PH (decide (k<0)) (fun g=>?_) (fun g3=>?_)
 ·rw [decide_eq_false fun h:eQ person count root k s x p=>absurd (of_decide_eq_true g) (by have:=h.2.2.1;omega)]
  exact PI (.bool false) rfl
 have g3:=of_decide_eq_false g3
 refine PF (.bool (decide (k≥count))) ?_
 refine PH (decide (k≥count)) (fun g=>?_) (fun g4=>?_)
 ·rw [decide_eq_false fun h:eQ person count root k s x p=>absurd (of_decide_eq_true g) (by have:=h.2.2.2.1;omega)]
  exact PI (.bool false) rfl
 have g4:=of_decide_eq_false g4
 refine PG (.bool (decide (ga s))) (fun α=>⟨[⟨.int .i64 s,0,[]⟩],PT,.inl ⟨rfl,s,rfl,rfl⟩,af rfl⟩) ?_
 refine PF (.bool (!decide (ga s))) ?_
 refine PH (!decide (ga s)) (fun g=>?_) (fun g5=>?_)
 ·have g:¬ ga s:=by simpa using g
  rw [decide_eq_false fun h:eQ person count root k s x p=>g h.2.2.2.2.1]
  exact PI (.bool false) rfl
 have g5:ga s:=by simpa using g5
 refine PF (.bool ((x.person:Int) != person)) ?_
 refine PH ((x.person:Int) != person) (fun g=>?_) (fun g6=>?_)
 ·have g:x.person≠person:=by simpa using g
  rw [decide_eq_false fun h:eQ person count root k s x p=>g h.2.2.2.2.2.1]
  exact PI (.bool false) rfl
 have g6:x.person=person:=by simpa using g6
 obtain⟨n,rfl⟩:∃ n:Nat,count=n:=⟨count.toNat,by omega⟩
 obtain⟨i,rfl⟩:∃ i:Nat,k=i:=⟨k.toNat,by omega⟩
 have hlt:=fN hf (by simp [aU])
 have hne:aI (aU (i:Int) x s)≠[]:=List.cons_ne_nil _ _
 have hfp:eQ person (n:Int) root (i:Int) s x p↔∃ d,bV n i (fA (kY (aI (aU (i:Int) x s)))) p=some d∧eE d=eE root:=⟨fun h=>h.2.2.2.2.2.2,fun h=>⟨by omega,by omega,by omega,by omega,g5,g6,h⟩⟩
 refine aK (.agg ((aI (aU (i:Int) x s)).flatMap c8).toArray) (fun α=>⟨[⟨.int .i64 (i:Int),0,[]⟩,⟨hO x,0,[]⟩,⟨.int .i64 s,0,[]⟩],PV,.inr (.inl ⟨rfl,_,s,x,rfl,hf,rfl⟩),af rfl⟩) (cC _) ?_
 generalize aI (aU (i:Int) x s)=X at *
 refine aK (zh (bV n i (fA (kY X)) p)) (fun α=>⟨[⟨.int .i64 (n:Int),0,[]⟩,⟨.int .i64 (i:Int),0,[]⟩,⟨(α 12).h,1,X.flatMap c8⟩,⟨.slice B m c,32,aT p⟩],⟨by kernel_rfl,by kernel_rfl,by kernel_rfl,by kernel_rfl,Eq.trans (dT (α 12).h 1 (X.flatMap c8)) (by kernel_rfl),rfl,rfl,cast (by kernel_rfl) hK1,trivial⟩,.inr (.inr ⟨rfl,hL,n,i,_,_,X,p,rfl,by omega,by omega,hne,by omega,rfl⟩),af rfl⟩) (by cases bV n i (fA (kY X)) p<;>rfl) ?_
 generalize bV n i (fA (kY X)) p=o at *
 cases o with
 | none =>
  refine PF (.bool false) ?_
  refine PH false (fun h=>nomatch h) (fun _=>?_)
  rw [decide_eq_false fun h:eQ person (n:Int) root (i:Int) s x p=>by obtain⟨d,h,_⟩:=hfp.1 h;cases h]
  exact PI (.bool false) rfl
 | some d =>
  refine PF (.bool true) ?_
  refine PH true (fun _=>?_) (fun h=>nomatch h)
  refine PG (.bool (false ^^ decide (eE d=eE root))) (fun α=>gv (f:=(fun l:List W8=>l.map w8)) AO (y:=eE d) (z:=eE root) (by kernel_rfl) (by kernel_rfl) (by kernel_rfl)) ?_
  have e:decide (eQ person (n:Int) root (i:Int) s x p)=(false ^^ decide (eE d=eE root)):=by
   by_cases h:eE d=eE root
   ·have h2:eQ person (n:Int) root (i:Int) s x p:=hfp.2 ⟨d,rfl,h⟩
    rw [decide_eq_true h,decide_eq_true h2];rfl
   rw [decide_eq_false h,decide_eq_false fun h2:eQ person (n:Int) root (i:Int) s x p=>h (by obtain⟨d2,h3,h4⟩:=hfp.1 h2;cases h3;exact h4)];rfl
  rw [e]
  exact PI (.bool (false ^^ decide (eE d=eE root))) rfl
theorem oE(l:List W8):sb (bt l)=l:=by
 unfold sb bt
 simp only [List.map_map]
 exact(List.map_congr_left fun x _=>rfl).trans (List.map_id l)
theorem kP(l:List W8):(bt l).size=l.length:=by rw [← kE,oE]
theorem qT{person count:Int}{root:Dg}(hf:∀ z∈bF person count root,z.fits):(aI (bF person count root)).length≤1048576:=by
 have h1:=hf (.n person) (by simp [bF])
 have h2:=hf (.n count) (by simp [bF])
 have a1:=cK 9 (ey person) (by have:=lh h1.1 h1.2;omega)
 have a2:=cK 9 (ey count) (by have:=lh h2.1 h2.2;omega)
 have a3:=cK 9 (bF person count root).length (by simp [bF])
 have e1:(bt (eE root)).size=32:=kP _
 have a4:=cK 9 32 (by decide)
 have a5:=cK 9 gy.size (by decide)
 have e2:gy.size=6:=rfl
 have e3:(sb gy).length=6:=by rw [kE];rfl
 have e4:(sb (bt (eE root))).length=32:=by rw [kE,e1]
 unfold aI
 simp only [LL]
 simp only [bF,List.flatMap_cons,List.flatMap_nil,List.length_append,List.length_nil,eA,List.length_cons,e1,e3,e4]at a3 ⊢
 omega
def gK(key person count E S:Int)(root:Dg)(k s:Int)(x:bX)(p:List Dg):Prop:=eQ person count root k s x p∧mh key (bt (aI (bF person count root))) E S=true
noncomputable instance (key person count E S:Int) (root:Dg) (k s:Int) (x:bX) (p:List Dg):Decidable (gK key person count E S root k s x p):=Classical.propDecidable _
def Pf(K:PZ)(f:FuncId)(xs:List SX.Arg)(v:Value):Prop :=
 (f=30∧b5 K∧∃ (person count E S:Int) (root:Dg) (k s:Int) (x:bX) (p:List Dg) (hdr:Value),xs=[⟨bp person count root E S,0,[]⟩,⟨dm k s x hdr,0,[]⟩]∧K hdr 32 (aT p)∧(∀ z∈aU k x s,z.fits)∧v=.bool (decide (eQ person count root k s x p))) ∨
 (f=21∧∃ (person count E S:Int) (root:Dg),xs=[⟨bp person count root E S,0,[]⟩]∧(∀ z∈bF person count root,z.fits)∧v=.agg ((aI (bF person count root)).flatMap c8).toArray) ∨
 (f=37∧b5 K∧∃ (key:Int) (u:Value) (X:List W8) (E S:Int),xs=[⟨.int .i64 key,0,[]⟩,⟨u,1,X.flatMap c8⟩,⟨.agg #[.int .i64 E,.int .i64 S],0,[]⟩]∧X.length≤1048576∧v=.bool (mh key (bt X) E S))
noncomputable def Mb(K A:PZ):SX.Cx:={ P:=Tryz.prog,R:=Pf,shp:=Ju,K:=K,A:=A,trm:=true }
theorem Ov(K A:PZ):(Mb K A).Ok:=by
 refine SX.Cx.bP (fun _=>rfl) ?_
 intro K f xs v W hR hrd hKf
 rcases hR with ⟨rfl,hL,person,count,E,S,root,k,s,x,p,hdr,rfl,hk,hf,rfl⟩|⟨rfl,person,count,E,S,root,rfl,hf,rfl⟩|⟨rfl,hL,key,u,X,E,S,rfl,hX,rfl⟩
 ·obtain⟨B,m,c,rfl,h3,h4⟩:=bG (hKf _ _ _ hk)
  exact(wY person count E S root k s x p B m c W h3 h4 hf (cV hL hKf)).mono fun e w' h=>al rfl h
 ·exact Calls.mono (qU person count E S root W hf) fun e w' h=>az.uS rfl h
 obtain⟨A,a,e,rfl,h1,h2⟩:=bG (hrd ⟨u,1,X.flatMap c8⟩ (by simp))
 exact(AN key (bt X) A a e E S W (by rw [oE];exact h1) h2 (by rw [kP];exact hX) (cV hL hKf)).mono fun e w' h=>al rfl h
def oH:SX.Tree :=
(.df (.call 30 [.no,.no]) [(.a (PN 0 0 36)),(.a (PN 1 0 11++[(.q 2)]))] .one
(.br 4 []
(.df (.call 21 [.no]) [(.a (PN 0 0 36))] (.sl 1)
(.df (.call 37 [.no,(.row 1 [(.q 5)]),.no]) [(.q 3),(.row 8),(.a [(.x 0 [34]),(.x 0 [35])])] .one
(.ret (.q 6) [] [])))
(.ret (.k (.bool false)) [] [])))
def wc:List SX.V:=[.x 3 [],.a ([.x 0 [0],.x 0 [1]]++((List.range 32).map fun j=>.x 0 [2+j])++[.x 0 [34],.x 0 [35]]),.a ([.x 1 [0],.x 1 [1]]++((List.range 9).map fun j=>.x 1 [2+j])++[.x 2 []])]
theorem Ak(K A:PZ):PY (Mb K A) ⟨fun f=>true,[],0,100⟩ 14 Tryz.f14 wc [.ag 36,.ag 11,.one,.one]=oH:=by kernel_rfl
theorem CC(key person count E S:Int)(root:Dg)(k s:Int)(x:bX)(p:List Dg)(B:Option Addr)(m c:Nat)(w:World)(hr:Rd w 32 B m (aT p))(hc:m≤c)(hf:∀ z∈aU k x s,z.fits)(hf2:∀ z∈bF person count root,z.fits)(hlaid:Laid w):RT 14 #[.int .i64 key,bp person count root E S,dm k s x (.slice B m c)] w (.bool (decide (gK key person count E S root k s x p))):=by
 refine PK (Ak (KW w) P0) [bp person count root E S,.agg ([Value.int .i64 k,Value.int .i64 s]++aV x).toArray,.slice B m c,.int .i64 key] (Ov _ _) Tryz.func14 ?_ ?_
 ·exact fun W hW v z xs h=>h W hW
 have hL:b5 (KW w):=fL hlaid
 have hK1:KW w (.slice B m c) 32 (aT p):=fun W hW=>⟨hr.aD hW,hc⟩
 have hsl:=qT hf2
 unfold oH
 refine PG (.bool (decide (eQ person count root k s x p))) (fun α=>⟨[⟨bp person count root E S,0,[]⟩,⟨dm k s x (.slice B m c),0,[]⟩],PU,.inl ⟨rfl,hL,person,count,E,S,root,k,s,x,p,_,rfl,hK1,hf,rfl⟩,af rfl⟩) ?_
 refine PH (decide (eQ person count root k s x p)) (fun g=>?_) (fun g=>?_)
 ·have g:=of_decide_eq_true g
  refine aK (.agg ((aI (bF person count root)).flatMap c8).toArray) (fun α=>⟨[⟨bp person count root E S,0,[]⟩],PT,.inr (.inl ⟨rfl,person,count,E,S,root,rfl,hf2,rfl⟩),af rfl⟩) (cC _) ?_
  have e:decide (gK key person count E S root k s x p)=mh key (bt (aI (bF person count root))) E S:=by
   cases hv:mh key (bt (aI (bF person count root))) E S with
   | true =>
    have h2:gK key person count E S root k s x p:=⟨g,hv⟩
    exact decide_eq_true h2
   | false=>exact decide_eq_false fun h2:gK key person count E S root k s x p=>by have:=h2.2;rw [hv]at this;cases this
  rw [e]
  generalize aI (bF person count root)=X at *
  refine PG (.bool (mh key (bt X) E S)) (fun α=>⟨[⟨.int .i64 key,0,[]⟩,⟨(α 8).h,1,X.flatMap c8⟩,⟨.agg #[.int .i64 E,.int .i64 S],0,[]⟩],⟨by kernel_rfl,by kernel_rfl,Eq.trans (dT (α 8).h 1 (X.flatMap c8)) (by kernel_rfl),by kernel_rfl,by kernel_rfl,trivial⟩,.inr (.inr ⟨rfl,hL,key,_,X,E,S,rfl,hsl,rfl⟩),af rfl⟩) ?_
  exact PI (.bool (mh key (bt X) E S)) rfl
 have g:=of_decide_eq_false g
 rw [decide_eq_false fun h2:gK key person count E S root k s x p=>g h2.1]
 exact PI (.bool false) rfl
def nC(hs:List lm)(ls:List bX)(ss:List Int):List Pb:=hs.mapIdx fun j h=>(IK h,jf ls ss j)
theorem Gq(hs:List lm)(ls:List bX)(ss:List Int):(nC hs ls ss).map (·.1)=hs.flatMap bj:=by
 unfold nC
 have e:hs.flatMap bj=hs.map IK:=by
  induction hs with
  | nil=>rfl
  | cons a r ih=>rw [List.flatMap_cons,List.map_cons,ih];rfl
 rw [e]
 apply List.ext_getElem
 ·simp
 intro i h1 h2;simp
theorem ld(hs:List lm)(ls:List bX)(ss:List Int):(nC hs ls ss).length=hs.length:=by unfold nC;simp
def jB(ls:List bX)(ss:List Int):List Dg:=(List.range ls.length).map fun j=>fA (kY (jf ls ss j))
theorem pz{hs:List lm}{ls:List bX}{ss:List Int}(h:hs.length=ls.length):(nC hs ls ss).map gF=jB ls ss:=by
 unfold nC jB
 apply List.ext_getElem
 ·simp [h]
 intro i h1 h2;simp [gF]
theorem lg{hs:List lm}{ls:List bX}{ss:List Int}{p:Pb}(h:p∈nC hs ls ss):∃ j t,hs[j]?=some t∧p=(IK t,jf ls ss j):=by
 obtain⟨j,hj,rfl⟩:=List.getElem_of_mem h
 unfold nC at hj ⊢
 simp only [List.length_mapIdx]at hj
 exact⟨j,hs[j],List.getElem?_eq_getElem hj,by simp⟩
def rX(hdr:Value)(hs:List lm)(ls:List bX)(ss:List Int):List SX.Arg:=⟨hdr,1,(nC hs ls ss).map (·.1)⟩::(nC hs ls ss).map fun p=>⟨p.1,1,p.2.flatMap c8⟩
def NO(K:PZ)(f:FuncId)(xs:List SX.Arg)(Q:Value→List SX.Arg→Prop):Prop:=f=19∧∃ (u1 u2:Value) (ls:List bX) (ss:List Int),xs=[⟨.agg #[u1,u2],0,[]⟩]∧K u1 9 (dn ls)∧K u2 1 (fw ss)∧ls.length=ss.length∧ls.length≤1000000∧(∀ i,i<ls.length→∀ z∈aU (i:Int) (ls.getD i default) (ss.getD i 0),z.fits)∧∀ A n c hs,hs.length=ls.length→Q (.slice A n c) (rX (.slice A n c) hs ls ss)
theorem GH{K:PZ}{f:FuncId}{xs:List SX.Arg}{Q:Value→List SX.Arg→Prop}{W:World}(h:NO K f xs Q)(hK:∀ s sz cells,K s sz cells→SX.Arg.rd W ⟨s,sz,cells⟩):Calls Tryz.prog f (xs.map SX.Arg.v).toArray W fun e W'=>Below W.heap.size W W'∧∃ v N,e=.returned v∧SX.Sh.one.fit v=true∧Q v N∧∀ y∈N,y.rd W'∧fR W.heap.size y.v:=by
 obtain⟨rfl,u1,u2,ls,ss,rfl,k1,k2,hnm,hl,hf,hQ⟩:=h
 obtain⟨A,n,c,rfl,h1,h2⟩:=bG (hK _ _ _ k1)
 obtain⟨B,m,d,rfl,h3,h4⟩:=bG (hK _ _ _ k2)
 refine(zD ls ss A n c B m d W h1 h2 h3 h4 hnm hl hf).mono fun e w' ⟨hb,hdr,hs,he,hl2,⟨⟨A2,n2,c2,hh,_⟩,g4,g5⟩,hh3⟩=>?_
 subst hh
 refine⟨hb,_,_,he,rfl,hQ A2 n2 c2 hs hl2,fun y hy=>?_⟩
 rcases List.mem_cons.1 hy with rfl|hy
 ·rw [Gq]
  exact⟨g4,g5.resolve_right fun⟨y,hy,_⟩=>nomatch hy⟩
 obtain⟨p,hp,rfl⟩:=List.mem_map.1 hy
 obtain⟨j,t,ht,rfl⟩:=lg hp
 obtain⟨_,g6,g7⟩:=hh3 j t ht
 exact⟨g6,g7.resolve_right fun⟨y,hy,_⟩=>nomatch hy⟩
def Ph(K:PZ)(f:FuncId)(xs:List SX.Arg)(v:Value):Prop :=
 (f=17∧∃ (u1 u2:Value) (ls:List bX) (ss:List Int) (person:Int),xs=[⟨.agg #[u1,u2],0,[]⟩,⟨.int .i64 person,0,[]⟩]∧K u1 9 (dn ls)∧K u2 1 (fw ss)∧ls.length≤1000000000∧ss.length≤1000000000∧gm ls∧v=.bool (decide (aQ ls ss person))) ∨
 (f=18∧b5 K∧∃ (u:Value) (ps:List Pb),xs=[⟨u,1,ps.map (·.1)⟩]∧(∀ p∈ps,K p.1 1 (p.2.flatMap c8))∧ps≠[]∧ps.length≤1000000∧(∀ p∈ps,p.2≠[]∧p.2.length≤17592186044416)∧v=ec (dQ (ps.map gF))) ∨
 (f=21∧∃ (person count E S:Int) (root:Dg),xs=[⟨bp person count root E S,0,[]⟩]∧(∀ z∈bF person count root,z.fits)∧v=.agg ((aI (bF person count root)).flatMap c8).toArray) ∨
 (f=20∧b5 K∧∃ (key:Int) (u:Value) (X:List W8),xs=[⟨.int .i64 key,0,[]⟩,⟨u,1,X.flatMap c8⟩]∧X.length≤1048576∧v=.tuple #[.agg #[.int .i64 (cx key (bt X)).1,.int .i64 (cx key (bt X)).2.1],.int .i64 (cx key (bt X)).2.2])
noncomputable def zl(nb:Nat)(K A:PZ):SX.Cx:={ nsh:=fun f=>if f=19 then some .one else none,Rn:=NO,nb:=nb,P:=Tryz.prog,R:=Ph,shp:=Ju,K:=K,A:=A,trm:=true }
theorem Oy(nb:Nat)(K A:PZ):(zl nb K A).Ok:=by
 refine SX.Cx.oB (fun _=>rfl) ?_ fun f sh hs K xs Q W h hrd hK=>?_
 case refine_2 =>
  have hf:=h.1
  subst hf
  have hs:some SX.Sh.one=some sh:=hs
  cases hs
  exact GH h hK
 intro K f xs v W hR hrd hKf
 rcases hR with ⟨rfl,u1,u2,ls,ss,person,rfl,k1,k2,hl,hl2,hf,rfl⟩|⟨rfl,hL,u,ps,rfl,hk,h0,hl,hp,rfl⟩|⟨rfl,person,count,E,S,root,rfl,hf,rfl⟩|⟨rfl,hL,key,u,X,rfl,hX,rfl⟩
 ·obtain⟨A,n,c,rfl,h1,h2,h3⟩:=eF (hKf _ _ _ k1)
  obtain⟨B,m,d,rfl,h4,h5⟩:=bG (hKf _ _ _ k2)
  exact(tg ls ss person A n c B m d W h1 h2 h4 h5 (by omega) (by have:=h4.1;rw [dy]at this;omega) hf).mono fun e w' h=>al rfl h
 ·obtain⟨A,n,c,rfl,h1,h2⟩:=bG (hrd ⟨u,1,ps.map (·.1)⟩ (by simp))
  exact(GJ ps A n c W h1 h2 h0 hl (fun p hm=>hKf _ _ _ (hk p hm)) hp (cV hL hKf)).mono fun e w' h=>al rfl h
 ·exact Calls.mono (qU person count E S root W hf) fun e w' h=>az.uS rfl h
 obtain⟨A,a,e,rfl,h1,h2⟩:=bG (hrd ⟨u,1,X.flatMap c8⟩ (by simp))
 exact(Hs key (bt X) A a e W (by rw [oE];exact h1) h2 (by rw [kP];exact hX) (cV hL hKf)).mono fun e w' h=>al rfl h
theorem jL{person count:Int}{root:Dg}(h1 : -9223372036854775808≤person∧person≤9223372036854775807)(h2 : -9223372036854775808≤count∧count≤9223372036854775807):∀ z∈bF person count root,z.fits:=by
 intro z hz
 have e1:(bt (eE root)).size=32:=kP _
 simp only [bF,List.mem_cons,List.not_mem_nil,or_false]at hz
 rcases hz with rfl|rfl|rfl|rfl
 ·exact(by decide:gy.size≤1048576)
 ·exact h1
 ·exact h2
 show(bt (eE root)).size≤1048576
 omega
noncomputable def dE(key person:Int)(ls:List bX)(ss:List Int):Value :=
 if key<1∨1073741789≤key then .tuple #[bp 0 0 (fun _=>0) 0 0,.int .i64 110]
 else if aQ ls ss person then
  (
   let root:=dQ (jB ls ss)
   let g:=cx key (bt (aI (bF person (ls.length:Int) root)))
   .tuple #[bp person (ls.length:Int) root g.1 g.2.1,.int .i64 g.2.2])
 else .tuple #[bp 0 0 (fun _=>0) 0 0,.int .i64 350]
def rk:SX.Tree :=
(.df (.bin .lss 3) [(.q 0),(.i 1)] .one
(.br 4 []
(.ret (.t [(.a ([(.i 0),(.i 0)]++PP 32 (.k (.int .u8 0))++[(.i 0),(.i 0)])),(.i 110)]) [none] [])
(.df (.bin .geq 3) [(.q 0),(.i 1073741789)] .one
(.br 5 []
(.ret (.t [(.a ([(.i 0),(.i 0)]++PP 32 (.k (.int .u8 0))++[(.i 0),(.i 0)])),(.i 110)]) [none] [])
(.df (.call 17 [.no,.no]) [(.a [(.q 2),(.q 3)]),(.q 1)] .one
(.df .not [(.q 6)] .one
(.br 7 []
(.ret (.t [(.a ([(.i 0),(.i 0)]++PP 32 (.k (.int .u8 0))++[(.i 0),(.i 0)])),(.i 350)]) [none,none] [])
(.df (.len false) [(.q 2)] .one
(.df (.callq 19 [.no]) [(.a [(.q 2),(.q 3)])] .one
(.df (.call 18 [(.ext 1)]) [(.q 9)] (.ag 32)
(.df (.call 21 [.no]) [(.a ([(.q 1),(.q 8)]++PN 10 0 32++[(.i 0),(.i 0)]))] (.sl 1)
(.df (.call 20 [.no,(.row 1 [(.q 11)])]) [(.q 0),(.row 2)] (.tp [(.ag 2),.one])
(.ret (.t [(.a [(.q 1),(.q 8),(.x 10 [0]),(.x 10 [1]),(.x 10 [2]),(.x 10 [3]),(.x 10 [4]),(.x 10 [5]),(.x 10 [6]),(.x 10 [7]),(.x 10 [8]),(.x 10 [9]),(.x 10 [10]),(.x 10 [11]),(.x 10 [12]),(.x 10 [13]),(.x 10 [14]),(.x 10 [15]),(.x 10 [16]),(.x 10 [17]),(.x 10 [18]),(.x 10 [19]),(.x 10 [20]),(.x 10 [21]),(.x 10 [22]),(.x 10 [23]),(.x 10 [24]),(.x 10 [25]),(.x 10 [26]),(.x 10 [27]),(.x 10 [28]),(.x 10 [29]),(.x 10 [30]),(.x 10 [31]),(.x 12 [0,0]),(.x 12 [0,1])]),(.x 12 [1])]) [none,none,none] [])))))))))))))
def yK:List SX.V:=[.x 0 [],.x 1 [],.x 2 [],.x 3 []]
theorem DX(nb:Nat)(K A:PZ):PY (zl nb K A) ⟨fun f=>f != 19,[],12,100⟩ 7 Tryz.f7 yK [.one,.one,.one,.one]=rk:=by kernel_rfl
theorem vy(ls:List bX)(ss:List Int)(j:Nat):jf ls ss j≠[]:=List.cons_ne_nil _ _
theorem FZ(key person:Int)(ls:List bX)(ss:List Int)(A:Option Addr)(n c:Nat)(B:Option Addr)(m d:Nat)(w:World)(hr:Rd w 9 A n (dn ls))(hc:n≤c)(hr2:Rd w 1 B m (fw ss))(hd:m≤d)(hl:n≤1000000000)(hm:m≤1000000000)(hf:gm ls)(hp : -9223372036854775808≤person∧person≤9223372036854775807)(hlf:aQ ls ss person→∀ i,i<ls.length→∀ z∈aU (i:Int) (ls.getD i default) (ss.getD i 0),z.fits)(hlaid:Laid w):RT 7 #[.int .i64 key,.int .i64 person,.slice A n c,.slice B m d] w (dE key person ls ss):=by
 refine PK (DX w.heap.size (KW w) P0) [.int .i64 key,.int .i64 person,.slice A n c,.slice B m d] (Oy _ _ _) Tryz.func7 ?_ ?_ ⟨rfl,Nat.le_refl _⟩
 ·exact fun W hW v z xs h=>h W hW
 have hL:b5 (zl w.heap.size (KW w) P0).K:=fL hlaid
 have hln:ls.length=n:=by have:=hr.1;rw [dO]at this;omega
 have hlm:ss.length=m:=by have:=hr2.1;rw [dy]at this;omega
 have hK1:KW w (.slice A n c) 9 (dn ls):=fun W hW=>⟨hr.aD hW,hc⟩
 have hK2:KW w (.slice B m d) 1 (fw ss):=fun W hW=>⟨hr2.aD hW,hd⟩
 unfold rk
 refine PF (.bool (decide (key<1))) ?_
 refine PH (decide (key<1)) (fun g=>?_) (fun g1=>?_)
 ·have e:dE key person ls ss=.tuple #[bp 0 0 (fun _=>0) 0 0,.int .i64 110]:=if_pos (.inl (of_decide_eq_true g))
  rw [e]
  exact PI (.tuple #[bp 0 0 (fun _=>0) 0 0,.int .i64 110]) rfl
 refine PF (.bool (decide (key≥1073741789))) ?_
 refine PH (decide (key≥1073741789)) (fun g=>?_) (fun g2=>?_)
 ·have e:dE key person ls ss=.tuple #[bp 0 0 (fun _=>0) 0 0,.int .i64 110]:=if_pos (.inr (of_decide_eq_true g))
  rw [e]
  exact PI (.tuple #[bp 0 0 (fun _=>0) 0 0,.int .i64 110]) rfl
 have g1:=of_decide_eq_false g1
 have g2:=of_decide_eq_false g2
 refine PG (.bool (decide (aQ ls ss person))) (fun α=>⟨[⟨.agg #[.slice A n c,.slice B m d],0,[]⟩,⟨.int .i64 person,0,[]⟩],PU,.inl ⟨rfl,_,_,ls,ss,person,rfl,hK1,hK2,by omega,by omega,hf,rfl⟩,af rfl⟩) ?_
 refine PF (.bool (!decide (aQ ls ss person))) ?_
 refine PH (!decide (aQ ls ss person)) (fun g=>?_) (fun g3=>?_)
 ·have g:¬ aQ ls ss person:=by simpa using g
  have e:dE key person ls ss=.tuple #[bp 0 0 (fun _=>0) 0 0,.int .i64 350]:=by unfold dE;rw [if_neg (by omega),if_neg g]
  rw [e]
  exact PI (.tuple #[bp 0 0 (fun _=>0) 0 0,.int .i64 350]) rfl
 have g3:aQ ls ss person:=by simpa using g3
 have hlf:=hlf g3
 have g3':=g3
 obtain⟨q1,q2,q3,_⟩:=g3
 refine PF (.int .i64 (n:Int)) ?_
 refine gJ (fun v N=>∃ A1 n1 c1 hs,List.length (α:=lm) hs=ls.length∧v=.slice A1 n1 c1∧N=rX (.slice A1 n1 c1) hs ls ss) (fun _=>rfl) (fun α=>⟨[⟨.agg #[.slice A n c,.slice B m d],0,[]⟩],PT,rfl,_,_,ls,ss,rfl,hK1,hK2,by omega,by omega,hlf,fun A1 n1 c1 hs h=>⟨A1,n1,c1,hs,h,rfl,rfl⟩⟩) ?_
 rintro _ _-⟨A1,n1,c1,hs,hhs,rfl,rfl⟩
 have hN:∀ y∈rX (.slice A1 n1 c1) hs ls ss,((zl w.heap.size (KW w) P0).plus (rX (.slice A1 n1 c1) hs ls ss++(zl w.heap.size (KW w) P0).N)).K y.v y.sz y.cells:=fun y hy=>lC (List.mem_append_left _ hy)
 have hN0:=hN _ (List.mem_cons_self ..)
 have hNp:∀ p∈nC hs ls ss,((zl w.heap.size (KW w) P0).plus (rX (.slice A1 n1 c1) hs ls ss++(zl w.heap.size (KW w) P0).N)).K p.1 1 (p.2.flatMap c8):=fun p hm=>hN ⟨p.1,1,p.2.flatMap c8⟩ (List.mem_cons_of_mem _ (List.mem_map.2 ⟨p,hm,rfl⟩))
 have hpn:nC hs ls ss≠[]:=fun h=>by have h2:=ld hs ls ss;rw [h]at h2;simp at h2;omega
 have hpt:∀ p∈nC hs ls ss,p.2≠[]∧p.2.length≤17592186044416:=fun p hm=>by
  obtain⟨j,t,ht,rfl⟩:=lg hm
  have hj:=(List.getElem?_eq_some_iff.1 ht).1
  have h1:=fN (hlf j (by omega)) (by simp [aU])
  exact⟨vy ls ss j,Nat.le_of_lt (show(jf ls ss j).length<17592186044416 from h1)⟩
 have hpl:=ld hs ls ss
 refine PG (ec (dQ (jB ls ss))) (fun α=>⟨[⟨.slice A1 n1 c1,1,(nC hs ls ss).map (·.1)⟩],⟨by kernel_rfl,rfl,cast (by kernel_rfl) hN0,trivial⟩,.inr (.inl ⟨rfl,rY hL,_,nC hs ls ss,rfl,hNp,hpn,by omega,hpt,by rw [pz hhs]⟩),af rfl⟩) ?_
 have hsf:=jL (root:=dQ (jB ls ss)) (count:=(n:Int)) hp (by omega)
 have hsl:=qT hsf
 have e:dE key person ls ss=.tuple #[bp person (n:Int) (dQ (jB ls ss)) (cx key (bt (aI (bF person (n:Int) (dQ (jB ls ss)))))).1 (cx key (bt (aI (bF person (n:Int) (dQ (jB ls ss)))))).2.1,.int .i64 (cx key (bt (aI (bF person (n:Int) (dQ (jB ls ss)))))).2.2]:=by
  unfold dE
  rw [if_neg (by omega),if_pos g3',hln]
 rw [e]
 generalize dQ (jB ls ss)=root at *
 refine aK (.agg ((aI (bF person (n:Int) root)).flatMap c8).toArray) (fun α=>⟨[⟨bp person (n:Int) root 0 0,0,[]⟩],PT,.inr (.inr (.inl ⟨rfl,person,n,0,0,root,rfl,hsf,rfl⟩)),af rfl⟩) (cC _) ?_
 generalize aI (bF person (n:Int) root)=X at *
 generalize hG:cx key (bt X)=G at *
 refine PG (.tuple #[.agg #[.int .i64 G.1,.int .i64 G.2.1],.int .i64 G.2.2]) (fun α=>⟨[⟨.int .i64 key,0,[]⟩,⟨(α 2).h,1,X.flatMap c8⟩],⟨by kernel_rfl,by kernel_rfl,Eq.trans (dT (α 2).h 1 (X.flatMap c8)) (by kernel_rfl),trivial⟩,.inr (.inr (.inr ⟨rfl,rY hL,key,_,X,rfl,hsl,by rw [hG]⟩)),af rfl⟩) ?_
 exact PI (.tuple #[bp person (n:Int) root G.1 G.2.1,.int .i64 G.2.2]) rfl
structure OW where
 (k s:Int)
 x:bX
 p:List Dg
 e:Int
noncomputable def bB(person:Int)(ls:List bX)(ss:List Int)(at_:Int):OW :=
 if aQ ls ss person then
  if 0≤at_∧at_<(ls.length:Int)then⟨at_,ss.getD at_.toNat 0,ls.getD at_.toNat default,cg (jB ls ss) at_.toNat,0⟩else⟨0,0,default,[],1⟩
 else⟨0,0,default,[],350⟩
def Pg(K:PZ)(f:FuncId)(xs:List SX.Arg)(v:Value):Prop :=
 f=17∧∃ (u1 u2:Value) (ls:List bX) (ss:List Int) (person:Int),xs=[⟨.agg #[u1,u2],0,[]⟩,⟨.int .i64 person,0,[]⟩]∧K u1 9 (dn ls)∧K u2 1 (fw ss)∧ls.length≤1000000000∧ss.length≤1000000000∧gm ls∧v=.bool (decide (aQ ls ss person))
def PD(K:PZ)(f:FuncId)(xs:List SX.Arg)(Q:Value→List SX.Arg→Prop):Prop :=
 NO K f xs Q ∨
 (f=27∧b5 K∧∃ (u:Value) (ps:List Pb) (i:Nat),xs=[⟨u,1,ps.map (·.1)⟩,⟨.int .i64 (i:Int),0,[]⟩]∧(∀ p∈ps,K p.1 1 (p.2.flatMap c8))∧i<ps.length∧ps.length≤65536∧(∀ p∈ps,p.2≠[]∧p.2.length≤17592186044416)∧∀ A n c,Q (.tuple #[.slice A n c,.int .i64 0]) [⟨.slice A n c,32,aT (cg (ps.map gF) i)⟩])
def Of:FuncId→Option SX.Sh:=fun f=>if f=19 then some .one else if f=27 then some (.tp [.one,.one])else none
noncomputable def zk(nb:Nat)(K A:PZ):SX.Cx:={ nsh:=Of,Rn:=PD,nb:=nb,P:=Tryz.prog,R:=Pg,shp:=Ju,K:=K,A:=A,trm:=true }
theorem Ox(nb:Nat)(K A:PZ):(zk nb K A).Ok:=by
 refine SX.Cx.oB (fun _=>rfl) ?_ fun f sh hs K xs Q W h hrd hK=>?_
 case refine_2 =>
  rcases h with h|⟨rfl,hL,u,ps,i,rfl,hk,hi,hl,hp,hQ⟩
  ·have hf:=h.1
   subst hf
   have hs:some SX.Sh.one=some sh:=hs
   cases hs
   exact GH h hK
  have hs:some (SX.Sh.tp [.one,.one])=some sh:=hs
  cases hs
  obtain⟨A,n,c,rfl,h1,h2⟩:=bG (hrd ⟨u,1,ps.map (·.1)⟩ (by simp))
  refine(DB ps i A n c W h1 h2 hi hl (fun p hm=>hK _ _ _ (hk p hm)) hp (cV hL hK)).mono fun e w' ⟨hb,hdr,he,⟨⟨A2,n2,c2,hh,_⟩,g4,g5⟩⟩=>?_
  subst hh
  refine⟨hb,_,_,he,rfl,hQ A2 n2 c2,fun y hy=>?_⟩
  obtain rfl:y=⟨.slice A2 n2 c2,32,aT (cg (ps.map gF) i)⟩:=by simpa using hy
  exact⟨g4,g5.resolve_right fun⟨y,hy,_⟩=>nomatch hy⟩
 intro K f xs v W hR hrd hKf
 obtain⟨rfl,u1,u2,ls,ss,person,rfl,k1,k2,hl,hl2,hf,rfl⟩:=hR
 obtain⟨A,n,c,rfl,h1,h2,h3⟩:=eF (hKf _ _ _ k1)
 obtain⟨B,m,d,rfl,h4,h5⟩:=bG (hKf _ _ _ k2)
 exact(tg ls ss person A n c B m d W h1 h2 h4 h5 (by omega) (by have:=h4.1;rw [dy]at this;omega) hf).mono fun e w' h=>al rfl h
def rl:SX.Tree :=(.df (.call 17 [.no,.no]) [(.a [(.q 1),(.q 2)]),(.q 0)] .one
(.df .not [(.q 4)] .one
(.br 5 []
(.ret (.t [(.a (PP 11 (.i 0)++[(.k (.slice none 0 0))])),(.i 350)]) [none,none] [])
(.df (.bin .lss 3) [(.q 3),(.i 0)] .one
(.br 6 []
(.ret (.t [(.a (PP 11 (.i 0)++[(.k (.slice none 0 0))])),(.i 1)]) [none,none] [])
(.df (.len false) [(.q 1)] .one
(.df (.bin .geq 3) [(.q 3),(.q 7)] .one
(.br 8 []
(.ret (.t [(.a (PP 11 (.i 0)++[(.k (.slice none 0 0))])),(.i 1)]) [none,none] [])
(.df .bnd [(.q 2),(.q 3)] .one
(.df (.elem 1 0) [(.q 2),(.q 3)] .one
(.df .bnd [(.q 1),(.q 3)] .one
(.df (.elems 9 0 9) [(.q 1),(.q 3)] (.ag 9)
(.df (.callq 19 [.no]) [(.a [(.q 1),(.q 2)])] .one
(.df (.callq 27 [(.ext 1),.no]) [(.q 13),(.q 3)] (.tp [.one,.one])
(.ret (.t [(.a ([(.q 3),(.q 10)]++PN 12 0 9++[(.x 14 [0])])),(.x 14 [1])]) [none,none] [])))))))))))))))
def yL:List SX.V:=[.x 0 [],.x 1 [],.x 2 [],.x 3 []]
def Il:jl:=⟨fun f=>f != 19 && f != 27,[],12,100⟩
theorem DZ(nb:Nat)(K A:PZ):PY (zk nb K A) Il 9 Tryz.f9 yL [.one,.one,.one,.one]=rl:=by kernel_rfl
theorem Gc(person:Int)(ls:List bX)(ss:List Int)(at_:Int)(A:Option Addr)(n c:Nat)(B:Option Addr)(m d:Nat)(w:World)(hr:Rd w 9 A n (dn ls))(hc:n≤c)(hr2:Rd w 1 B m (fw ss))(hd:m≤d)(hl:n≤1000000000)(hm:m≤1000000000)(hf:gm ls)(hlf:aQ ls ss person→∀ i,i<ls.length→∀ z∈aU (i:Int) (ls.getD i default) (ss.getD i 0),z.fits)(hlaid:Laid w):Calls Tryz.prog 9 #[.int .i64 person,.slice A n c,.slice B m d,.int .i64 at_] w fun e w'=>Below w.heap.size w w'∧∃ hdr,e=.returned (.tuple #[dm (bB person ls ss at_).k (bB person ls ss at_).s (bB person ls ss at_).x hdr,.int .i64 (bB person ls ss at_).e])∧az w w' [] hdr 32 (aT (bB person ls ss at_).p):=by
 refine PK (DZ w.heap.size (KW w) P0) [.int .i64 person,.slice A n c,.slice B m d,.int .i64 at_] (Ox _ _ _) Tryz.func9 ?_ ?_ ⟨rfl,Nat.le_refl _⟩
 ·exact fun W hW v z xs h=>h W hW
 have hL:b5 (zk w.heap.size (KW w) P0).K:=fL hlaid
 have hA:=SX.rd_some hr
 have hB:=SX.rd_some hr2
 have hln:ls.length=n:=by have:=hr.1;rw [dO]at this;omega
 have hlm:ss.length=m:=by have:=hr2.1;rw [dy]at this;omega
 have hK1:KW w (.slice A n c) 9 (dn ls):=fun W hW=>⟨hr.aD hW,hc⟩
 have hK2:KW w (.slice B m d) 1 (fw ss):=fun W hW=>⟨hr2.aD hW,hd⟩
 unfold rl
 refine PG (.bool (decide (aQ ls ss person))) (fun α=>⟨[⟨.agg #[.slice A n c,.slice B m d],0,[]⟩,⟨.int .i64 person,0,[]⟩],PU,⟨rfl,_,_,ls,ss,person,rfl,hK1,hK2,by omega,by omega,hf,rfl⟩,af rfl⟩) ?_
 refine PF (.bool (!decide (aQ ls ss person))) ?_
 refine PH (!decide (aQ ls ss person)) (fun g=>?_) (fun g3=>?_)
 ·have g:¬ aQ ls ss person:=by simpa using g
  have e:bB person ls ss at_=⟨0,0,default,[],350⟩:=if_neg g
  rw [e]
  exact aY fun α W _ _ hS=>⟨hS.below,.slice none 0 0,by kernel_rfl,az.nil⟩
 have g3:aQ ls ss person:=by simpa using g3
 have hlf:=hlf g3
 obtain⟨q1,q2,q3,_⟩:=id g3
 refine PF (.bool (decide (at_<0))) ?_
 refine PH (decide (at_<0)) (fun g=>?_) (fun g1=>?_)
 ·have g:=of_decide_eq_true g
  have e:bB person ls ss at_=⟨0,0,default,[],1⟩:=by unfold bB;rw [if_pos g3,if_neg (by omega)]
  rw [e]
  exact aY fun α W _ _ hS=>⟨hS.below,.slice none 0 0,by kernel_rfl,az.nil⟩
 have g1:=of_decide_eq_false g1
 refine PF (.int .i64 (n:Int)) ?_
 refine PF (.bool (decide (at_≥(n:Int)))) ?_
 refine PH (decide (at_≥(n:Int))) (fun g=>?_) (fun g2=>?_)
 ·have g:=of_decide_eq_true g
  have e:bB person ls ss at_=⟨0,0,default,[],1⟩:=by unfold bB;rw [if_pos g3,if_neg (by omega)]
  rw [e]
  exact aY fun α W _ _ hS=>⟨hS.below,.slice none 0 0,by kernel_rfl,az.nil⟩
 have g2:=of_decide_eq_false g2
 obtain⟨k,rfl⟩:∃ k:Nat,at_=(k:Int):=⟨at_.toNat,by omega⟩
 have hk:k<n:=by omega
 obtain⟨x,hx⟩:∃ x,ls[k]?=some x:=⟨_,List.getElem?_eq_getElem (by omega)⟩
 obtain⟨s,hs⟩:∃ s,ss[k]?=some s:=⟨_,List.getElem?_eq_getElem (by omega)⟩
 have e:bB person ls ss (k:Int)=⟨(k:Int),s,x,cg (jB ls ss) k,0⟩:=by
  unfold bB
  rw [if_pos g3,if_pos (by omega),Int.toNat_natCast,List.getD_eq_getElem?_getD,hs,List.getD_eq_getElem?_getD,hx]
  rfl
 rw [e]
 refine PQ B m d k hB (by omega) ?_
 refine PG (.int .i64 s) (fun α=>bx (o:=0) (v:=.int .i64 s) (f:=fun k:Int=>[Value.int .i64 k]) (l:=ss) (A:=B) (n:=m) (c:=d) (j:=k) (z:=s) (fun _=>rfl) hB (by kernel_rfl) (by kernel_rfl) (by omega) (cast (by kernel_rfl) hK2) hs (by decide) (by kernel_rfl)) ?_
 refine PQ A n c k hA hk ?_
 refine PR (f:=aV) (l:=ls) (hO x) A n c k x hA hk (cast (by kernel_rfl) hK1) hx ?_
 refine gJ (fun v N=>∃ A1 n1 c1 hs,List.length (α:=lm) hs=ls.length∧v=.slice A1 n1 c1∧N=rX (.slice A1 n1 c1) hs ls ss) (fun _=>rfl) (fun α=>⟨[⟨.agg #[.slice A n c,.slice B m d],0,[]⟩],PT,.inl ⟨rfl,_,_,ls,ss,rfl,hK1,hK2,by omega,by omega,hlf,fun A1 n1 c1 hs h=>⟨A1,n1,c1,hs,h,rfl,rfl⟩⟩⟩) ?_
 rintro _ _-⟨A1,n1,c1,hs,hhs,rfl,rfl⟩
 have hN:∀ y∈rX (.slice A1 n1 c1) hs ls ss,((zk w.heap.size (KW w) P0).plus (rX (.slice A1 n1 c1) hs ls ss++(zk w.heap.size (KW w) P0).N)).K y.v y.sz y.cells:=fun y hy=>lC (List.mem_append_left _ hy)
 have hN0:=hN _ (List.mem_cons_self ..)
 have hNp:∀ p∈nC hs ls ss,((zk w.heap.size (KW w) P0).plus (rX (.slice A1 n1 c1) hs ls ss++(zk w.heap.size (KW w) P0).N)).K p.1 1 (p.2.flatMap c8):=fun p hm=>hN ⟨p.1,1,p.2.flatMap c8⟩ (List.mem_cons_of_mem _ (List.mem_map.2 ⟨p,hm,rfl⟩))
 have hpt:∀ p∈nC hs ls ss,p.2≠[]∧p.2.length≤17592186044416:=fun p hm=>by
  obtain⟨j,t,ht,rfl⟩:=lg hm
  have hj:=(List.getElem?_eq_some_iff.1 ht).1
  have h1:=fN (hlf j (by omega)) (by simp [aU])
  exact⟨vy ls ss j,Nat.le_of_lt (show(jf ls ss j).length<17592186044416 from h1)⟩
 have hpl:=ld hs ls ss
 refine gJ (fun v N=>∃ A2 n2 c2,v=.tuple #[.slice A2 n2 c2,.int .i64 0]∧N=[⟨.slice A2 n2 c2,32,aT (cg (jB ls ss) k)⟩]) (fun _=>rfl) (fun α=>⟨[⟨.slice A1 n1 c1,1,(nC hs ls ss).map (·.1)⟩,⟨.int .i64 (k:Int),0,[]⟩],⟨by kernel_rfl,rfl,cast (by kernel_rfl) hN0,by kernel_rfl,by kernel_rfl,trivial⟩,.inr ⟨rfl,rY hL,_,nC hs ls ss,k,rfl,hNp,by omega,by omega,hpt,fun A2 n2 c2=>⟨A2,n2,c2,rfl,by rw [pz hhs]⟩⟩⟩) ?_
 rintro _ _-⟨A2,n2,c2,rfl,rfl⟩
 refine aY fun α W _ hrow hS=>⟨hS.below,.slice A2 n2 c2,by kernel_rfl,?_⟩
 have hN:=hS.fact (p:=SX.NF _) (List.mem_append.2 (.inr (List.mem_cons_of_mem _ (List.mem_cons_self ..)))) ⟨.slice A2 n2 c2,32,aT (cg (jB ls ss) k)⟩ (List.mem_cons_self ..)
 exact⟨⟨A2,n2,c2,rfl,hN.1.2⟩,hN.1,.inl hN.2⟩
end Go.Proofs.YtidekfgkpindbaaGreatDoor
namespace Go.Proofs.YtidekfgkpindbaaGreatDoor
set_option maxRecDepth 100000
open Go Go.RowKit SX
def EX:Nat→S8→List W8→S8×List W8
 | 0,s,l=>(s,l)
 | k+1,s,l=>EX k (bD s (l.take 64)) (l.drop 64)
theorem AW:∀ (k:Nat)(s:S8)(l:List W8),l.length / 64=k→EX k s l=cv s l
 | 0,s,l,h=>by rw [gA (by omega)];rfl
 | k+1,s,l,h=>by rw [eO (by omega),EX,AW k _ _ (by simp;omega)]
def Ln(l:List W8):List W8:=Dh (CO (EX (l.length / 64) cF l).1 (EX (l.length / 64) cF l).2 l.length)
theorem Jz(l:List W8):dl l=Ln l:=by unfold dl Ln;rw [AW _ _ _ rfl]
theorem eH{l d:List W8}(h:Ln l=d):dl l=d:=(Jz l).trans h
def NB(a:Nat):Nat→Nat→Nat
 | 0,_=>1
 | f+1,n=>NB a f (n / 2) ^ 2*a ^ (n % 2) % 2147483579
theorem Gi(a:Nat):∀ (f n:Nat),n<2 ^ f→NB a f n=Jac.pm a n
 | 0,n,h=>by
  have e:n=0:=by simpa using h
  subst e;rfl
 | f+1,n,h=>by
  have ih:=Gi a f (n / 2) (by rw [Nat.pow_succ]at h;omega)
  have e:a ^ n=(a ^ (n / 2)) ^ 2*a ^ (n % 2):=by rw [← Nat.pow_mul,← Nat.pow_add];congr 1;omega
  show NB a f (n / 2) ^ 2*a ^ (n % 2) % 2147483579=a ^ n % 2147483579
  rw [ih,e,Nat.mul_mod,Jac.pm,← Nat.pow_mod,← Nat.mul_mod]
theorem mX{a n b:Int}(h:Jac.eU a=true)(hb:((NB a.toNat 31 (Jac.vN n).toNat:Nat):Int)=b)(hn:(Jac.vN n).toNat<2 ^ 31):Jac.ap a n=b:=by
 rw [← hb,Gi _ _ _ hn];exact if_pos h
def xk:bX:=⟨1,3,0,5,9,7,3,0,2⟩
def er:bX:=⟨4,3,0,0,9,7,4,0,0⟩
def uI:bX:=⟨4,3,0,0,10,7,4,0,0⟩
def K1:Nat→Nat→List W8
 | 0,u=>[BitVec.ofNat 8 u]
 | f+1,u=>if u<128 then [BitVec.ofNat 8 u]else(BitVec.ofNat 8 u|||128#8)::K1 f (u / 128)
theorem k6:∀ (f u:Nat),u<128 ^ (f+1)→K1 f u=bS u
 | 0,u,h=>(di (by simpa using h)).symm
 | f+1,u,h=>by
  unfold K1
  by_cases h1:u<128
  ·rw [if_pos h1,di h1]
  rw [if_neg h1,pv h1,k6 f _ (by rw [Nat.pow_succ]at h;omega)]
theorem Ms:aI (aU 0 xk 7)=[3#8,12#8,2#8,5#8,108#8,105#8,109#8,105#8,116#8,1#8,0#8,1#8,2#8,1#8,6#8,1#8,0#8,1#8,10#8,1#8,18#8,1#8,14#8,1#8,6#8,1#8,0#8,1#8,4#8,1#8,14#8]:=by
 simp only [aI,aU,List.flatMap_cons,List.flatMap_nil,eA]
 repeat rw [di (by decide)]
 rfl
theorem Mt:aI (aU 1 er 9)=[3#8,12#8,2#8,5#8,108#8,105#8,109#8,105#8,116#8,1#8,2#8,1#8,8#8,1#8,6#8,1#8,0#8,1#8,0#8,1#8,18#8,1#8,14#8,1#8,8#8,1#8,0#8,1#8,0#8,1#8,18#8]:=by
 simp only [aI,aU,List.flatMap_cons,List.flatMap_nil,eA]
 repeat rw [di (by decide)]
 rfl
theorem Mu:aI (aU 1 uI 9)=[3#8,12#8,2#8,5#8,108#8,105#8,109#8,105#8,116#8,1#8,2#8,1#8,8#8,1#8,6#8,1#8,0#8,1#8,0#8,1#8,20#8,1#8,14#8,1#8,8#8,1#8,0#8,1#8,0#8,1#8,18#8]:=by
 simp only [aI,aU,List.flatMap_cons,List.flatMap_nil,eA]
 repeat rw [di (by decide)]
 rfl
theorem qZ:dl (sb jV)=[159#8,145#8,22#8,31#8,67#8,67#8,62#8,73#8,166#8,222#8,109#8,182#8,128#8,215#8,159#8,96#8,21#8,159#8,46#8,74#8,201#8,23#8,38#8,33#8,161#8,40#8,70#8,66#8,129#8,88#8,68#8,11#8]:=eH (by kernel_rfl)
theorem yp:dl (sb oA)=[84#8,94#8,165#8,56#8,70#8,16#8,3#8,239#8,220#8,140#8,129#8,194#8,68#8,83#8,27#8,0#8,63#8,111#8,38#8,207#8,204#8,246#8,192#8,7#8,59#8,50#8,57#8,253#8,237#8,244#8,148#8,70#8]:=eH (by kernel_rfl)
theorem Mp:eE (fA (kY (aI (aU 0 xk 7))))=[118#8,39#8,108#8,53#8,45#8,245#8,97#8,200#8,206#8,16#8,165#8,244#8,152#8,244#8,118#8,240#8,236#8,235#8,58#8,50#8,38#8,32#8,178#8,121#8,62#8,147#8,75#8,221#8,38#8,175#8,146#8,121#8]:=by
 rw [pV,Ms,kY,qZ]
 exact eH (by kernel_rfl)
theorem N4:eE (fA (kY (aI (aU 1 er 9))))=[193#8,120#8,216#8,181#8,155#8,218#8,118#8,163#8,221#8,252#8,200#8,237#8,58#8,225#8,38#8,21#8,203#8,172#8,210#8,130#8,34#8,224#8,50#8,73#8,166#8,251#8,170#8,68#8,226#8,233#8,33#8,167#8]:=by
 rw [pV,Mt,kY,qZ]
 exact eH (by kernel_rfl)
theorem N5:eE (fA (kY (aI (aU 1 uI 9))))=[28#8,18#8,170#8,2#8,41#8,152#8,222#8,52#8,213#8,131#8,95#8,210#8,91#8,16#8,241#8,211#8,123#8,157#8,92#8,2#8,185#8,184#8,81#8,184#8,129#8,57#8,152#8,131#8,11#8,236#8,117#8,84#8]:=by
 rw [pV,Mu,kY,qZ]
 exact eH (by kernel_rfl)
def gq:Dg:=fA (lA (fA (kY (aI (aU 0 xk 7)))) (fA (kY (aI (aU 1 er 9)))))
def GI:Dg:=fA (lA (fA (kY (aI (aU 0 xk 7)))) (fA (kY (aI (aU 1 uI 9)))))
theorem Mq:eE gq=[197#8,215#8,163#8,242#8,133#8,243#8,185#8,159#8,136#8,6#8,113#8,140#8,139#8,155#8,13#8,200#8,209#8,247#8,46#8,66#8,76#8,130#8,59#8,29#8,91#8,4#8,61#8,183#8,1#8,58#8,76#8,109#8]:=by
 unfold gq
 rw [pV,lA,yp,Mp,N4]
 exact eH (by kernel_rfl)
theorem N6:eE GI=[84#8,175#8,1#8,102#8,253#8,45#8,111#8,233#8,250#8,22#8,3#8,67#8,53#8,82#8,170#8,238#8,96#8,17#8,165#8,73#8,233#8,173#8,243#8,83#8,116#8,37#8,123#8,158#8,127#8,118#8,67#8,187#8]:=by
 unfold GI
 rw [pV,lA,yp,Mp,N5]
 exact eH (by kernel_rfl)
theorem Mr:eE GI≠eE gq:=by rw [Mq,N6];decide
def vO:List W8:=[3#8,4#8,2#8,6#8,108#8,105#8,109#8,105#8,116#8,115#8,1#8,6#8,1#8,4#8,2#8,32#8,197#8,215#8,163#8,242#8,133#8,243#8,185#8,159#8,136#8,6#8,113#8,140#8,139#8,155#8,13#8,200#8,209#8,247#8,46#8,66#8,76#8,130#8,59#8,29#8,91#8,4#8,61#8,183#8,1#8,58#8,76#8,109#8]
theorem zq:aI (bF 3 2 gq)=vO:=by
 have e1:(bt (eE gq)).size=32:=kP _
 simp only [aI,bF,List.flatMap_cons,List.flatMap_nil,eA,e1,oE,Mq]
 repeat rw [di (by decide)]
 rfl
theorem EA:dl (sb bH)=[120#8,55#8,123#8,82#8,87#8,87#8,180#8,148#8,66#8,127#8,137#8,1#8,79#8,151#8,215#8,153#8,40#8,243#8,147#8,141#8,20#8,235#8,81#8,226#8,15#8,181#8,222#8,201#8,131#8,78#8,179#8,4#8]:=eH (by kernel_rfl)
theorem yq:dl (sb dk)=[11#8,111#8,57#8,92#8,161#8,74#8,194#8,2#8,55#8,77#8,92#8,255#8,103#8,139#8,113#8,21#8,125#8,11#8,239#8,126#8,0#8,195#8,4#8,94#8,155#8,128#8,170#8,180#8,255#8,184#8,82#8,118#8]:=eH (by kernel_rfl)
theorem MF:bS 8=[8#8]:=(k6 9 8 (by decide)).symm.trans (by kernel_rfl)
theorem K2:bS 10=[10#8]:=(k6 9 10 (by decide)).symm.trans (by kernel_rfl)
theorem F8:bS 2048=[128#8,16#8]:=(k6 9 2048 (by decide)).symm.trans (by kernel_rfl)
theorem qp:bS 1911278952=[232#8,154#8,175#8,143#8,7#8]:=(k6 9 1911278952 (by decide)).symm.trans (by kernel_rfl)
theorem qq:bS 3688104104=[168#8,129#8,208#8,222#8,13#8]:=(k6 9 3688104104 (by decide)).symm.trans (by kernel_rfl)
theorem vx:(bt vO).size=48:=rfl
theorem FG:bn bH [.n 5,.s (bt vO)]=1047721554:=by
 have e:aI [.n 5,.s (bt vO)]=[3#8,2#8,1#8,10#8,2#8,48#8,3#8,4#8,2#8,6#8,108#8,105#8,109#8,105#8,116#8,115#8,1#8,6#8,1#8,4#8,2#8,32#8,197#8,215#8,163#8,242#8,133#8,243#8,185#8,159#8,136#8,6#8,113#8,140#8,139#8,155#8,13#8,200#8,209#8,247#8,46#8,66#8,76#8,130#8,59#8,29#8,91#8,4#8,61#8,183#8,1#8,58#8,76#8,109#8]:=by
  simp only [aI,List.flatMap_cons,List.flatMap_nil,eA,vx,oE]
  rw [show bS ([.n 5,.s (bt vO)]:List Fl).length=[2#8] from di (by decide:2<128),di (by decide:48<128)]
  rw [show bS (ey 5)=[10#8] from K2]
  rfl
 unfold bn jM
 rw [EA,e]
 have h:dl ([120#8,55#8,123#8,82#8,87#8,87#8,180#8,148#8,66#8,127#8,137#8,1#8,79#8,151#8,215#8,153#8,40#8,243#8,147#8,141#8,20#8,235#8,81#8,226#8,15#8,181#8,222#8,201#8,131#8,78#8,179#8,4#8]++[3#8,2#8,1#8,10#8,2#8,48#8,3#8,4#8,2#8,6#8,108#8,105#8,109#8,105#8,116#8,115#8,1#8,6#8,1#8,4#8,2#8,32#8,197#8,215#8,163#8,242#8,133#8,243#8,185#8,159#8,136#8,6#8,113#8,140#8,139#8,155#8,13#8,200#8,209#8,247#8,46#8,66#8,76#8,130#8,59#8,29#8,91#8,4#8,61#8,183#8,1#8,58#8,76#8,109#8])=[225#8,227#8,126#8,116#8,118#8,9#8,177#8,125#8,41#8,179#8,198#8,120#8,192#8,160#8,165#8,112#8,90#8,118#8,238#8,179#8,16#8,74#8,206#8,128#8,66#8,90#8,225#8,180#8,136#8,17#8,192#8,42#8]:=eH (by kernel_rfl)
 rw [h]
 rfl
theorem Bo:bn dk [.n 955639476,.n 1024,.s (bt vO)]=492397864:=by
 have e:aI [.n 955639476,.n 1024,.s (bt vO)]=[3#8,3#8,1#8,232#8,154#8,175#8,143#8,7#8,1#8,128#8,16#8,2#8,48#8,3#8,4#8,2#8,6#8,108#8,105#8,109#8,105#8,116#8,115#8,1#8,6#8,1#8,4#8,2#8,32#8,197#8,215#8,163#8,242#8,133#8,243#8,185#8,159#8,136#8,6#8,113#8,140#8,139#8,155#8,13#8,200#8,209#8,247#8,46#8,66#8,76#8,130#8,59#8,29#8,91#8,4#8,61#8,183#8,1#8,58#8,76#8,109#8]:=by
  simp only [aI,List.flatMap_cons,List.flatMap_nil,eA,vx,oE]
  rw [show bS ([.n 955639476,.n 1024,.s (bt vO)]:List Fl).length=[3#8] from di (by decide:3<128),di (by decide:48<128)]
  rw [show bS (ey 955639476)=[232#8,154#8,175#8,143#8,7#8] from qp]
  rw [show bS (ey 1024)=[128#8,16#8] from F8]
  rfl
 unfold bn jM
 rw [yq,e]
 have h:dl ([11#8,111#8,57#8,92#8,161#8,74#8,194#8,2#8,55#8,77#8,92#8,255#8,103#8,139#8,113#8,21#8,125#8,11#8,239#8,126#8,0#8,195#8,4#8,94#8,155#8,128#8,170#8,180#8,255#8,184#8,82#8,118#8]++[3#8,3#8,1#8,232#8,154#8,175#8,143#8,7#8,1#8,128#8,16#8,2#8,48#8,3#8,4#8,2#8,6#8,108#8,105#8,109#8,105#8,116#8,115#8,1#8,6#8,1#8,4#8,2#8,32#8,197#8,215#8,163#8,242#8,133#8,243#8,185#8,159#8,136#8,6#8,113#8,140#8,139#8,155#8,13#8,200#8,209#8,247#8,46#8,66#8,76#8,130#8,59#8,29#8,91#8,4#8,61#8,183#8,1#8,58#8,76#8,109#8])=[243#8,252#8,52#8,170#8,239#8,108#8,117#8,13#8,181#8,33#8,168#8,133#8,66#8,245#8,156#8,184#8,186#8,120#8,142#8,97#8,79#8,228#8,23#8,107#8,123#8,105#8,229#8,28#8,235#8,150#8,97#8,236#8]:=eH (by kernel_rfl)
 rw [h]
 rfl
theorem IQ:bn dk [.n 1844052052,.n 4,.s (bt vO)]=46574135:=by
 have e:aI [.n 1844052052,.n 4,.s (bt vO)]=[3#8,3#8,1#8,168#8,129#8,208#8,222#8,13#8,1#8,8#8,2#8,48#8,3#8,4#8,2#8,6#8,108#8,105#8,109#8,105#8,116#8,115#8,1#8,6#8,1#8,4#8,2#8,32#8,197#8,215#8,163#8,242#8,133#8,243#8,185#8,159#8,136#8,6#8,113#8,140#8,139#8,155#8,13#8,200#8,209#8,247#8,46#8,66#8,76#8,130#8,59#8,29#8,91#8,4#8,61#8,183#8,1#8,58#8,76#8,109#8]:=by
  simp only [aI,List.flatMap_cons,List.flatMap_nil,eA,vx,oE]
  rw [show bS ([.n 1844052052,.n 4,.s (bt vO)]:List Fl).length=[3#8] from di (by decide:3<128),di (by decide:48<128)]
  rw [show bS (ey 1844052052)=[168#8,129#8,208#8,222#8,13#8] from qq]
  rw [show bS (ey 4)=[8#8] from MF]
  rfl
 unfold bn jM
 rw [yq,e]
 have h:dl ([11#8,111#8,57#8,92#8,161#8,74#8,194#8,2#8,55#8,77#8,92#8,255#8,103#8,139#8,113#8,21#8,125#8,11#8,239#8,126#8,0#8,195#8,4#8,94#8,155#8,128#8,170#8,180#8,255#8,184#8,82#8,118#8]++[3#8,3#8,1#8,168#8,129#8,208#8,222#8,13#8,1#8,8#8,2#8,48#8,3#8,4#8,2#8,6#8,108#8,105#8,109#8,105#8,116#8,115#8,1#8,6#8,1#8,4#8,2#8,32#8,197#8,215#8,163#8,242#8,133#8,243#8,185#8,159#8,136#8,6#8,113#8,140#8,139#8,155#8,13#8,200#8,209#8,247#8,46#8,66#8,76#8,130#8,59#8,29#8,91#8,4#8,61#8,183#8,1#8,58#8,76#8,109#8])=[116#8,21#8,176#8,80#8,6#8,234#8,27#8,189#8,237#8,191#8,67#8,10#8,53#8,131#8,59#8,252#8,237#8,225#8,171#8,125#8,212#8,138#8,125#8,236#8,41#8,72#8,178#8,100#8,55#8,247#8,89#8,173#8]:=eH (by kernel_rfl)
 rw [h]
 rfl
theorem MO:Jac.ap 4 1047721554=955639476:=mX Jac.fu (by kernel_rfl) (by decide)
theorem JT:Jac.ap 4 5=1024:=mX Jac.fu (by kernel_rfl) (by decide)
theorem BD:Jac.ap 4 288485507=1909044052:=mX Jac.fu (by kernel_rfl) (by decide)
theorem JU:Jac.ap 4 (-492397864)=599425497:=mX Jac.fu (by kernel_rfl) (by decide)
theorem Gp(h:Jac.eU 1024=true):Jac.ap 1024 (-492397864)=1484222247:=mX h (by kernel_rfl) (by decide)
theorem Lk:cx 5 (bt vO)=(492397864,288485507,0):=by
 have h1:bf 5 (bt vO)=1047721554:=by unfold bf;rw [FG];rfl
 have h2:bW 955639476 1024 (bt vO)=492397864:=Bo
 unfold cx
 rw [if_neg (by decide),h1,MO,JT,h2]
 rfl
theorem Nt:mh 1024 (bt vO) 492397864 288485507=true:=by
 have hv:Jac.eU 1024=true:=by rw [← JT];exact Jac.kJ Jac.fu
 have v1:Jac.eU 1909044052=true:=by rw [← BD];exact Jac.kJ Jac.fu
 have v2:Jac.eU 1484222247=true:=by rw [← Gp hv];exact Jac.kJ hv
 have h2:bW 955639476 1024 (bt vO)=492397864:=Bo
 have h3:Jac.eC 1909044052 1484222247=955639476:=by unfold Jac.eC;rw [if_pos ⟨v1,v2⟩];rfl
 unfold mh
 rw [if_neg (by rintro(q|q|q|q|q)<;>first|omega|(rw [hv]at q;cases q)),BD,Gp hv,h3,h2]
 rfl
theorem Ns:mh 4 (bt vO) 492397864 288485507=false:=by
 have v1:Jac.eU 1909044052=true:=by rw [← BD];exact Jac.kJ Jac.fu
 have v2:Jac.eU 599425497=true:=by rw [← JU];exact Jac.kJ Jac.fu
 have h2:bW 1844052052 4 (bt vO)=46574135:=IQ
 have h3:Jac.eC 1909044052 599425497=1844052052:=by unfold Jac.eC;rw [if_pos ⟨v1,v2⟩];rfl
 unfold mh
 rw [if_neg (by rintro(q|q|q|q|q)<;>first|omega|(rw [Jac.fu]at q;cases q)),BD,JU,h3,h2]
 rfl
def cJ(k:Int):Prop:=-9223372036854775808≤k∧k≤9223372036854775807
def bX.fit(x:bX):Prop:=cJ x.no∧cJ x.person∧cJ x.of_∧cJ x.from_∧cJ x.to_∧cJ x.known∧cJ x.kind∧cJ x.limb∧cJ x.n
theorem jA{k s:Int}{x:bX}(h1:cJ k)(h:x.fit)(h2:cJ s):∀ z∈aU k x s,z.fits:=by
 obtain⟨a1,a2,a3,a4,a5,a6,a7,a8,a9⟩:=h
 intro z hz
 simp only [aU,List.mem_cons,List.not_mem_nil,or_false]at hz
 rcases hz with rfl|rfl|rfl|rfl|rfl|rfl|rfl|rfl|rfl|rfl|rfl|rfl
 ·exact(by decide:fj.size≤1048576)
 all_goals assumption
theorem Cq{k l n:Int}(h:aL k l n):cJ k∧cJ l∧cJ n:=by
 unfold aL at h;unfold cJ;omega
theorem Fp{x:bX}(h:nK x)(h2:cJ x.of_):x.fit:=by
 obtain⟨a1,a2,a3,a4,a5,a6⟩:=ax.1 h
 have hc:cJ x.kind∧cJ x.limb∧cJ x.n:=by
  rcases a6 with a6|a6
  ·exact Cq a6
  unfold cJ;omega
 obtain⟨c1,c2,c3⟩:=hc
 unfold bX.fit
 refine⟨?_,?_,h2,?_,?_,?_,c1,c2,c3⟩<;>unfold cJ<;>omega
theorem Iu{l:List bX}(h:cf l=0):Lx l:=by
 unfold cf at h
 split at h
 ·cases h
 split at h
 ·assumption
 cases h
theorem Aa{ls:List bX}{ss:List Int}{person:Int}(h:aQ ls ss person){i:Nat}{x:bX}(hx:ls[i]?=some x):nK x:=((Iu h.2.2.2.1.1) i x hx).1
theorem jI{ls:List bX}{ss:List Int}{person:Int}(hf:gm ls)(h:aQ ls ss person):∀ i,i<ls.length→∀ z∈aU (i:Int) (ls.getD i default) (ss.getD i 0),z.fits:=fun i hi=>by
 obtain⟨x,hx⟩:∃ x,ls[i]?=some x:=⟨_,List.getElem?_eq_getElem hi⟩
 obtain⟨s,hs⟩:∃ s,ss[i]?=some s:=⟨_,List.getElem?_eq_getElem (by rw [h.2.2.1];exact hi)⟩
 have hs2:=h.2.2.2.2 s (List.mem_of_getElem? hs)
 have h64:=h.2.1
 have e1:ls.getD i default=x:=by rw [List.getD_eq_getElem?_getD,hx];rfl
 have e2:ss.getD i 0=s:=by rw [List.getD_eq_getElem?_getD,hs];rfl
 rw [e1,e2]
 refine jA ?_ (Fp (Aa h hx) (hf x (List.mem_of_getElem? hx))) ?_
 ·unfold cJ;omega
 obtain⟨b1,b2⟩:=hs2
 unfold cJ;omega
def NL(K:PZ)(f:FuncId)(xs:List SX.Arg)(v:Value):Prop :=
 (f=7∧b5 K∧∃ (key person:Int) (u1 u2:Value) (ls:List bX) (ss:List Int),xs=[⟨.int .i64 key,0,[]⟩,⟨.int .i64 person,0,[]⟩,⟨u1,9,dn ls⟩,⟨u2,1,fw ss⟩]∧ls.length≤1000000000∧ss.length≤1000000000∧gm ls∧cJ person∧v=dE key person ls ss) ∨
 (f=30∧b5 K∧∃ (person count E S:Int) (root:Dg) (k s:Int) (x:bX) (p:List Dg) (hdr:Value),xs=[⟨bp person count root E S,0,[]⟩,⟨dm k s x hdr,0,[]⟩]∧K hdr 32 (aT p)∧(∀ z∈aU k x s,z.fits)∧v=.bool (decide (eQ person count root k s x p))) ∨
 (f=14∧b5 K∧∃ (key person count E S:Int) (root:Dg) (k s:Int) (x:bX) (p:List Dg) (hdr:Value),xs=[⟨.int .i64 key,0,[]⟩,⟨bp person count root E S,0,[]⟩,⟨dm k s x hdr,0,[]⟩]∧K hdr 32 (aT p)∧(∀ z∈aU k x s,z.fits)∧(∀ z∈bF person count root,z.fits)∧v=.bool (decide (gK key person count E S root k s x p)))
def J3(K:PZ)(f:FuncId)(xs:List SX.Arg)(Q:Value→List SX.Arg→Prop):Prop :=
 f=9∧b5 K∧∃ (person at_:Int) (u1 u2:Value) (ls:List bX) (ss:List Int),xs=[⟨.int .i64 person,0,[]⟩,⟨u1,9,dn ls⟩,⟨u2,1,fw ss⟩,⟨.int .i64 at_,0,[]⟩]∧ls.length≤1000000000∧ss.length≤1000000000∧gm ls∧∀ A c,Q (.tuple #[dm (bB person ls ss at_).k (bB person ls ss at_).s (bB person ls ss at_).x (.slice A (bB person ls ss at_).p.length c),.int .i64 (bB person ls ss at_).e]) [⟨.slice A (bB person ls ss at_).p.length c,32,aT (bB person ls ss at_).p⟩]
theorem BG{K:PZ}{f:FuncId}{xs:List SX.Arg}{Q:Value→List SX.Arg→Prop}{W:World}(h:J3 K f xs Q)(hrd:∀ x∈xs,x.rd W)(hK:∀ s sz cells,K s sz cells→SX.Arg.rd W ⟨s,sz,cells⟩):Calls Tryz.prog f (xs.map SX.Arg.v).toArray W fun e W'=>Below W.heap.size W W'∧∃ v N,e=.returned v∧(SX.Sh.tp [.ag 12,.one]).fit v=true∧Q v N∧∀ y∈N,y.rd W'∧fR W.heap.size y.v:=by
 obtain⟨rfl,hL,person,at_,u1,u2,ls,ss,rfl,hl,hl2,hf,hQ⟩:=h
 obtain⟨A,n,c,rfl,h1,h2,h3⟩:=eF (hrd ⟨u1,9,dn ls⟩ (by simp))
 obtain⟨B,m,d,rfl,h4,h5⟩:=bG (hrd ⟨u2,1,fw ss⟩ (by simp))
 have hm:ss.length=m:=by have:=h4.1;rw [dy]at this;omega
 refine(Gc person ls ss at_ A n c B m d W h1 h2 h4 h5 (by omega) (by omega) hf (jI hf) (cV hL hK)).mono fun e w' ⟨hb,hdr,he,⟨⟨A2,n2,c2,hh,hc2⟩,g4,g5⟩⟩=>?_
 subst hh
 have hr4:Rd w' 32 A2 n2 (aT (bB person ls ss at_).p):=g4.1
 have e2:n2=(bB person ls ss at_).p.length:=by have:=hr4.1;rw [dv]at this;omega
 subst e2
 refine⟨hb,_,_,he,?_,hQ A2 c2,fun y hy=>?_⟩
 ·generalize bB person ls ss at_=o
  kernel_rfl
 obtain rfl:y=_:=List.mem_singleton.1 hy
 exact⟨⟨hr4,hc2⟩,g5.resolve_right fun⟨y,hy,_⟩=>nomatch hy⟩
def Nc:FuncId→Option SX.Sh:=fun f=>if f∈[14,30]then some .one else if f=7 then some (.tp [.ag 36,.one])else none
noncomputable def jt(nb:Nat)(K A:PZ):SX.Cx:={ nsh:=fun f=>if f=9 then some (.tp [.ag 12,.one])else none,Rn:=J3,nb:=nb,P:=Tryz.prog,R:=NL,shp:=Nc,K:=K,A:=A,trm:=true,cut:=[(14,6,true),(16,7,true),(17,8,true),(18,9,false),(19,10,false)] }
theorem tq{K:PZ}{f:FuncId}{xs:List SX.Arg}{v:Value}{W:World}(hR:NL K f xs v)(hrd:∀ x∈xs,x.rd W)(hKf:∀ s sz cells,K s sz cells→SX.Arg.rd W ⟨s,sz,cells⟩):Calls Tryz.prog f (xs.map SX.Arg.v).toArray W fun e w'=>e=.returned v∧Below W.heap.size W w':=by
 rcases hR with ⟨rfl,hL,key,person,u1,u2,ls,ss,rfl,hl,hl2,hf,hp,rfl⟩|⟨rfl,hL,person,count,E,S,root,k,s,x,p,hdr,rfl,hk,hf,rfl⟩|⟨rfl,hL,key,person,count,E,S,root,k,s,x,p,hdr,rfl,hk,hf,hf2,rfl⟩
 ·obtain⟨A,n,c,rfl,h1,h2,h3⟩:=eF (hrd ⟨u1,9,dn ls⟩ (by simp))
  obtain⟨B,m,d,rfl,h4,h5⟩:=bG (hrd ⟨u2,1,fw ss⟩ (by simp))
  have hm:ss.length=m:=by have:=h4.1;rw [dy]at this;omega
  exact FZ key person ls ss A n c B m d W h1 h2 h4 h5 (by omega) (by omega) hf hp (jI hf) (cV hL hKf)
 ·obtain⟨B,m,c,rfl,h3,h4⟩:=bG (hKf _ _ _ hk)
  exact wY person count E S root k s x p B m c W h3 h4 hf (cV hL hKf)
 obtain⟨B,m,c,rfl,h3,h4⟩:=bG (hKf _ _ _ hk)
 exact CC key person count E S root k s x p B m c W h3 h4 hf hf2 (cV hL hKf)
theorem OI(nb:Nat)(K A:PZ):(jt nb K A).Ok:=by
 refine SX.Cx.oB (fun _=>rfl) ?_ fun f sh hs K xs Q W h hrd hK=>?_
 case refine_2 =>
  have hf:=h.1
  subst hf
  have hs:some (SX.Sh.tp [.ag 12,.one])=some sh:=hs
  cases hs
  exact BG h hrd hK
 intro K f xs v W hR hrd hKf
 have h:=tq hR hrd hKf
 rcases hR with ⟨rfl,_⟩|⟨rfl,_⟩|⟨rfl,_⟩<;>exact h.mono fun e w' h=>al rfl h
def ox:List bX:=[xk,er]
def qX:List Int:=[7,9]
theorem OO:Lx ox:=fun i z hz=>by
 match i,hz with
 | 0,hz=>cases hz;exact⟨by decide,by decide,by decide⟩
 | 1,hz=>cases hz;exact⟨by decide,by decide,by decide⟩
 | i+2,hz=>cases hz
theorem LY:cf ox=0:=by unfold cf;rw [if_neg (by decide),if_pos OO]
theorem ve:aQ ox qX 3:=⟨by decide,by decide,rfl,⟨LY,by decide⟩,fun s hs=>by
 have:s=7∨s=9:=by simpa [qX]using hs
 rcases this with rfl|rfl<;>exact⟨by decide,by decide⟩⟩
theorem Jh:¬ aQ ox qX 2:=fun h=>absurd (h.2.2.2.1.2 xk (by decide)) (by decide)
theorem Jg:¬ aQ [] [] 3:=fun h=>absurd h.1 (by decide)
theorem Bk:gm ox:=fun z hz=>by
 have:z=xk∨z=er:=by simpa [ox]using hz
 rcases this with rfl|rfl<;>exact⟨by decide,by decide⟩
def nI:Dg:=fA (kY (aI (aU 0 xk 7)))
def OZ:Dg:=fA (kY (aI (aU 1 er 9)))
theorem JQ:jB ox qX=[nI,OZ]:=rfl
theorem Nn:dQ (jB ox qX)=gq:=by
 rw [JQ,← vu (by decide),nw,rb (by decide)]
 rfl
theorem Je:cg (jB ox qX) 1=[nI]:=by
 rw [JQ,ja (by decide),nw,fJ (by decide)]
 rfl
theorem KR:dE 5 3 ox qX=.tuple #[bp 3 2 gq 492397864 288485507,.int .i64 0]:=by
 unfold dE
 rw [if_neg (by decide),if_pos ve]
 show Value.tuple #[bp 3 2 (dQ (jB ox qX)) (cx 5 (bt (aI (bF 3 2 (dQ (jB ox qX)))))).1 (cx 5 (bt (aI (bF 3 2 (dQ (jB ox qX)))))).2.1,.int .i64 (cx 5 (bt (aI (bF 3 2 (dQ (jB ox qX)))))).2.2]=_
 rw [Nn,zq,Lk]
theorem F0:dE 0 3 [] []=.tuple #[bp 0 0 (fun _=>0) 0 0,.int .i64 110]:=if_pos (.inl (by decide))
theorem Da:dE 1 3 [] []=.tuple #[bp 0 0 (fun _=>0) 0 0,.int .i64 350]:=by
 unfold dE;rw [if_neg (by decide),if_neg Jg]
theorem zH:dE 5 2 ox qX=.tuple #[bp 0 0 (fun _=>0) 0 0,.int .i64 350]:=by
 unfold dE;rw [if_neg (by decide),if_neg Jh]
theorem Gb:bB 3 ox qX 1=⟨1,9,er,[nI],0⟩:=by
 unfold bB
 rw [if_pos ve,if_pos (by decide)]
 show(⟨1,9,er,cg (jB ox qX) 1,0⟩:OW)=_
 rw [Je]
theorem xC:bB 3 ox qX 2=⟨0,0,default,[],1⟩:=by
 unfold bB
 rw [if_pos ve,if_neg (by decide)]
theorem Lh:ga 9:=⟨by decide,by decide⟩
theorem Bc(d:Dg):bV 2 1 d [nI]=some (fA (lA nI d)):=by
 rw [pT (by decide) (by decide) (by decide),nH (by decide),if_pos rfl]
theorem Fv:eQ 3 2 gq 1 9 er [nI]:=⟨by decide,by decide,by decide,by decide,Lh,rfl,gq,Bc OZ,rfl⟩
theorem KJ:¬ eQ 3 2 gq 1 9 uI [nI]:=fun h=>by
 obtain⟨d,h1,h2⟩:=h.2.2.2.2.2.2
 have h1:bV 2 1 (fA (kY (aI (aU 1 uI 9)))) [nI]=some d:=h1
 rw [Bc]at h1
 cases h1
 exact Mr h2
theorem Ir:gK 1024 3 2 492397864 288485507 gq 1 9 er [nI]:=⟨Fv,by rw [zq];exact Nt⟩
theorem Is:¬ gK 1024 3 2 492397864 288485507 gq 1 9 uI [nI]:=fun h=>KJ h.1
theorem Iq:¬ gK 4 3 2 492397864 288485507 gq 1 9 er [nI]:=fun h=>by
 have h2:=h.2
 rw [zq,Ns]at h2
 cases h2
theorem Ip:¬ gK 4 0 0 0 0 (fun _=>0) 0 0 default []:=fun h=>absurd h.1.1 (by decide)
end Go.Proofs.YtidekfgkpindbaaGreatDoor
namespace Go.Proofs.YtidekfgkpindbaaGreatDoor
set_option maxRecDepth 20000
open Go Go.RowKit SX Go.ChangeShapes Go.WideShapes Go.ChangeAt
theorem max_eq:maxLen=9223372036854775807:=by unfold maxLen;rfl
theorem iF(cs:List Value){o k o':Nat}(h:o+k=o'):cs.drop o=(cs.drop o).take k++cs.drop o':=by
 subst h;rw [← List.drop_drop];exact(List.take_append_drop ..).symm
section
variable {H:Type}{enc:TypeId×Value→H}{w:World}{base:Nat}{sp:Nat→Bool}{held:Bool}{r:Reach}{b0:Nat}{v:Value}{d:DataW H}{ps:List MemPlace}
theorem Fq{β:Type}{f:β→List Value}{Q:β→Prop}{sz:Nat}(a:Addr):∀ (len:Nat),(∀ i,i<len→∃ c:β,Q c∧w.cells? base (a.add (i*sz)) sz=some (f c)) →
 ∃ l:List β,l.length=len∧(∀ c∈l,Q c)∧∀ i c,l[i]?=some c→w.cells? base (a.add (i*sz)) sz=some (f c)
 | 0,_=>⟨[],rfl,(fun _ h=>nomatch h),by simp⟩
 | len+1,h=>by
  obtain⟨l,hl,hq,hx⟩:=Fq a len (fun i hi=>h i (by omega))
  obtain⟨c,hqc,hc⟩:=h len (by omega)
  refine⟨l++[c],by simp [hl],fun c' hc'=>?_,fun i c' hc'=>?_⟩
  ·rcases List.mem_append.1 hc' with h1|h1
   ·exact hq c' h1
   obtain rfl:c'=c:=by simpa using h1
   exact hqc
  rw [List.getElem?_append]at hc'
  split at hc'
  ·exact hx i c' hc'
  have:i-l.length=0:=by
   rcases Nat.eq_zero_or_pos (i-l.length)with h0|h0
   ·exact h0
   rw [List.getElem?_eq_none (by simp;omega)]at hc';cases hc'
  rw [this]at hc'
  obtain rfl:c=c':=by simpa using hc'
  obtain rfl:i=len:=by omega
  exact hc
theorem yj{β:Type}{f:β→List Value}{Q:β→Prop}{sz:Nat}{t e:TypeId}{n:Nat}{cs:List Value}{y:DataW H×List MemPlace}(hu:Tryz.prog.underlying t=some (.slice e))(hC:Tryz.prog.cellsOf e=sz)(h0:0<sz)(hlen:∀ c,(f c).length=sz)
 (hel:∀ (n:Nat) (cs:List Value) (y:DataW H×List MemPlace),DataW.trod enc Tryz.prog w base sp held n e cs=some y→∃ c,Q c∧cs=f c) (hf:DataW.trod enc Tryz.prog w base sp held n t cs=some y) :
 ∃ (A:Option Addr) (k cap:Nat) (l:List β),cs=[.slice A k cap]∧Rd w sz A k (l.flatMap f)∧k≤cap∧cap≤maxLen∧∀ c∈l,Q c:=by
 rcases DataW.trod_slice hu hf with ⟨he,_⟩|⟨a,len,cap',elems,rest,m,_,he,_,_,hlc,hcm,hel',hcell,_,_⟩
 ·exact⟨none,0,0,[],he,⟨by simp,fun h=>absurd h (by omega)⟩,Nat.le_refl _,by omega,fun _ h=>nomatch h⟩
 rw [hC]at hcell
 obtain⟨l,hl,hq,hx⟩:=Fq (w:=w) (base:=base) (f:=f) (Q:=Q) (sz:=sz) a len fun i hi=>by
  have h1:=hcell i hi
  rw [List.getElem?_eq_getElem (by omega)]at h1
  cases hq:w.cells? base (a.add (i*sz)) sz with
  | none=>rw [hq]at h1;simp at h1
  | some cs =>
   rw [hq]at h1
   obtain⟨c,hqc,rfl⟩:=hel _ _ _ (by simpa using h1)
   exact⟨c,hqc,rfl⟩
 have hll:(l.flatMap f).length=len*sz:=by rw [SX.aB hlen,hl]
 refine⟨some a,len,cap',l,he,⟨hll,fun hn=>⟨a,rfl,?_,fun j u hu=>?_⟩⟩,by omega,by omega,hq⟩
 ·obtain⟨c,hc⟩:∃ c,l[0]?=some c:=⟨_,List.getElem?_eq_getElem (by omega)⟩
  have:=World.cells?_block (hx 0 c hc) (by omega)
  rwa [fa]at this
 have hj:j<len*sz:=by
  have:=(List.getElem?_eq_some_iff.1 hu).1
  rwa [hll]at this
 have hd:j / sz<len:=Nat.div_lt_of_lt_mul (by rw [Nat.mul_comm];exact hj)
 have hm:j % sz<sz:=Nat.mod_lt _ h0
 obtain⟨c,hc⟩:∃ c,l[j / sz]?=some c:=⟨_,List.getElem?_eq_getElem (by omega)⟩
 have hw:=hx _ c hc
 have hjj:j / sz*sz+j % sz=j:=by rw [Nat.mul_comm];exact Nat.div_add_mod j sz
 have h4:(f c)[j % sz]?=some u:=by
  rw [← hjj,← List.getElem?_drop,SX.gE hlen hc,List.getElem?_append_left (by rw [hlen];exact hm)]at hu
  exact hu
 obtain⟨_,_,h5⟩:=World.cells?_some hw
 have h6:=(h5 (j % sz) hm).trans h4
 have h7:(a.add (j / sz*sz)).add (j % sz)=a.add j:=by rw [Addr.add_add,hjj]
 rw [h7]at h6
 exact h6
theorem FH{a:Int}(h:(Lit.int .i64 a).wf=true) : -9223372036854775808≤a∧a≤9223372036854775807:=by
 have h:(decide (IntKind.i64.min≤a) && decide (a≤IntKind.i64.max))=true:=h
 rw [Bool.and_eq_true,decide_eq_true_eq,decide_eq_true_eq]at h
 exact⟨h.1,h.2⟩
theorem eB{n:Nat}{cs:List Value}{y:DataW H×List MemPlace}(hf:DataW.trod enc Tryz.prog w base sp held n 3 cs=some y):∃ k,cJ k∧cs=[.int .i64 k]:=by
 obtain⟨k,e,_,hw⟩:=DataW.trod_int Tryz.underlying3 hf
 exact⟨k,FH hw,e⟩
theorem Cr{n:Nat}{cs:List Value}{y:DataW H×List MemPlace}(hf:DataW.trod enc Tryz.prog w base sp held n 36 cs=some y):∃ k l n:Int,(cJ k∧cJ l∧cJ n)∧cs=[.int .i64 k,.int .i64 l,.int .i64 n]:=by
 obtain⟨xs,n,_,_,hlen,hl,hx⟩:=DataW.trod_struct Tryz.underlying36 hf
 have hC:Tryz.prog.cellsOf 36=3:=by kernel_rfl
 rw [hC]at hlen
 have hl':xs.length=3:=hl
 have g0:DataW.trod enc Tryz.prog w base sp held n 3 ((cs.drop 0).take 1)=some (xs[0]'(by omega)):=(hx 0 _ rfl).trans (List.getElem?_eq_getElem _)
 obtain⟨v0,h0,e0⟩:=eB g0
 have g1:DataW.trod enc Tryz.prog w base sp held n 3 ((cs.drop 1).take 1)=some (xs[1]'(by omega)):=(hx 1 _ rfl).trans (List.getElem?_eq_getElem _)
 obtain⟨v1,h1,e1⟩:=eB g1
 have g2:DataW.trod enc Tryz.prog w base sp held n 3 ((cs.drop 2).take 1)=some (xs[2]'(by omega)):=(hx 2 _ rfl).trans (List.getElem?_eq_getElem _)
 obtain⟨v2,h2,e2⟩:=eB g2
 refine⟨v0,v1,v2,⟨h0,h1,h2⟩,?_⟩
 show cs=_
 rw [show cs=cs.drop 0 from rfl,iF cs (show 0+1=1 from rfl),e0,iF cs (show 1+1=2 from rfl),e1,iF cs (show 2+1=3 from rfl),e2,List.drop_eq_nil_of_le (by omega:cs.length≤3)]
 rfl
theorem C6{n:Nat}{cs:List Value}{y:DataW H×List MemPlace}(hf:DataW.trod enc Tryz.prog w base sp held n 38 cs=some y):∃ x:bX,x.fit∧cs=aV x:=by
 obtain⟨xs,n,_,_,hlen,hl,hx⟩:=DataW.trod_struct Tryz.underlying38 hf
 have hC:Tryz.prog.cellsOf 38=9:=by kernel_rfl
 rw [hC]at hlen
 have hl':xs.length=7:=hl
 have g0:DataW.trod enc Tryz.prog w base sp held n 3 ((cs.drop 0).take 1)=some (xs[0]'(by omega)):=(hx 0 _ rfl).trans (List.getElem?_eq_getElem _)
 obtain⟨v0,h0,e0⟩:=eB g0
 have g1:DataW.trod enc Tryz.prog w base sp held n 3 ((cs.drop 1).take 1)=some (xs[1]'(by omega)):=(hx 1 _ rfl).trans (List.getElem?_eq_getElem _)
 obtain⟨v1,h1,e1⟩:=eB g1
 have g2:DataW.trod enc Tryz.prog w base sp held n 3 ((cs.drop 2).take 1)=some (xs[2]'(by omega)):=(hx 2 _ rfl).trans (List.getElem?_eq_getElem _)
 obtain⟨v2,h2,e2⟩:=eB g2
 have g3:DataW.trod enc Tryz.prog w base sp held n 3 ((cs.drop 3).take 1)=some (xs[3]'(by omega)):=(hx 3 _ rfl).trans (List.getElem?_eq_getElem _)
 obtain⟨v3,h3,e3⟩:=eB g3
 have g4:DataW.trod enc Tryz.prog w base sp held n 3 ((cs.drop 4).take 1)=some (xs[4]'(by omega)):=(hx 4 _ rfl).trans (List.getElem?_eq_getElem _)
 obtain⟨v4,h4,e4⟩:=eB g4
 have g5:DataW.trod enc Tryz.prog w base sp held n 3 ((cs.drop 5).take 1)=some (xs[5]'(by omega)):=(hx 5 _ rfl).trans (List.getElem?_eq_getElem _)
 obtain⟨v5,h5,e5⟩:=eB g5
 have g6:DataW.trod enc Tryz.prog w base sp held n 36 ((cs.drop 6).take 3)=some (xs[6]'(by omega)):=(hx 6 _ rfl).trans (List.getElem?_eq_getElem _)
 obtain⟨v6,v7,v8,⟨h6,h7,h8⟩,e6⟩:=Cr g6
 refine⟨⟨v0,v1,v2,v3,v4,v5,v6,v7,v8⟩,⟨h0,h1,h2,h3,h4,h5,h6,h7,h8⟩,?_⟩
 show cs=_
 rw [show cs=cs.drop 0 from rfl,iF cs (show 0+1=1 from rfl),e0,iF cs (show 1+1=2 from rfl),e1,iF cs (show 2+1=3 from rfl),e2,iF cs (show 3+1=4 from rfl),e3,iF cs (show 4+1=5 from rfl),e4,iF cs (show 5+1=6 from rfl),e5,iF cs (show 6+3=9 from rfl),e6,List.drop_eq_nil_of_le (by omega:cs.length≤9)]
 rfl
theorem zy{n:Nat}{cs:List Value}{y:DataW H×List MemPlace}(hf:DataW.trod enc Tryz.prog w base sp held n 23 cs=some y):∃ (A:Option Addr)(k cap:Nat)(l:List Int),(Rd w 1 A k (fw l)∧k≤cap∧cap≤maxLen)∧cs=[.slice A k cap]:=by
 obtain⟨A,k,cap,l,h1,h2,h3,h4,_⟩:=yj (f:=fun k:Int=>[Value.int .i64 k]) (sz:=1) (Q:=fun _=>True) Tryz.underlying23 (by kernel_rfl) (by decide) (fun _=>rfl) (fun n cs y h=>by obtain⟨k,_,e⟩:=eB h;exact⟨k,trivial,e⟩) hf
 exact⟨A,k,cap,l,⟨h2,h3,h4⟩,h1⟩
theorem C7{n:Nat}{cs:List Value}{y:DataW H×List MemPlace}(hf:DataW.trod enc Tryz.prog w base sp held n 22 cs=some y):∃ (A:Option Addr)(k cap:Nat)(l:List bX),(Rd w 9 A k (dn l)∧k≤cap∧cap≤maxLen∧∀ x∈l,x.fit)∧cs=[.slice A k cap]:=by
 obtain⟨A,k,cap,l,h1,h2,h3,h4,h5⟩:=yj (f:=aV) (sz:=9) (Q:=bX.fit) Tryz.underlying22 (by kernel_rfl) (by decide) (fun _=>rfl) (fun n cs y h=>C6 h) hf
 exact⟨A,k,cap,l,⟨h2,h3,h4,h5⟩,h1⟩
theorem BW{r:Reach}{b0:Nat}{t e:TypeId}(hu:Tryz.prog.underlying t=some (.slice e))(hval:Value.okWide Tryz.prog w r b0 t v){A:Option Addr}{n cap:Nat}(h:v.cells.toList=[.slice A n cap]):v=.slice A n cap:=by
 obtain⟨A',n',c',rfl⟩:=okWide_slice hu hval
 simpa [Value.cells]using h
theorem open_ints(hval:Value.okWide Tryz.prog w r b0 23 v)(hd:DataW.Trod enc Tryz.prog w base sp held 23 v d ps):∃ (A:Option Addr)(k cap:Nat)(l:List Int),v=.slice A k cap∧Rd w 1 A k (fw l)∧k≤cap∧cap≤9223372036854775807:=by
 obtain⟨fuel,hf⟩:=hd
 obtain⟨A,k,cap,l,h,hc⟩:=zy hf
 rw [max_eq]at h
 exact⟨A,k,cap,l,BW Tryz.underlying23 hval hc,h⟩
theorem Ge(hval:Value.okWide Tryz.prog w r b0 22 v)(hd:DataW.Trod enc Tryz.prog w base sp held 22 v d ps):∃ (A:Option Addr)(k cap:Nat)(l:List bX),v=.slice A k cap∧Rd w 9 A k (dn l)∧k≤cap∧cap≤9223372036854775807∧∀ x∈l,x.fit:=by
 obtain⟨fuel,hf⟩:=hd
 obtain⟨A,k,cap,l,h,hc⟩:=C7 hf
 rw [max_eq]at h
 exact⟨A,k,cap,l,BW Tryz.underlying22 hval hc,h⟩
end
def xg:List (String×DataW Unit):=[("kinesphere/digest.start",Rows.laid_kinesphere_digest_start),("kinesphere/digest.numbers",Rows.laid_kinesphere_digest_numbers)]
theorem zv:Tryz.prog.globalNamed "kinesphere/digest.start" = some 0:=by kernel_rfl
theorem Fz:Tryz.prog.globalNamed "kinesphere/digest.numbers" = some 1:=by kernel_rfl
theorem zB{W:World}(h:laidMetH Tryz.prog xg W):Laid W:=by
 rw [MakeChecks.laidMetH_plain _ _ _ (by kernel_rfl)]at h
 have h0:laidMet Tryz.prog (("kinesphere/digest.start",Lib.tabData .u32 (cF.cells.map fun v=>match v with|.int _ i=>i|_=>0))::[("kinesphere/digest.numbers",Rows.laid_kinesphere_digest_numbers)]) W:=cast (by kernel_rfl) h
 have h1:laidMet Tryz.prog (("kinesphere/digest.numbers",Lib.tabData .u32 (cb.map fun x=>(x.toNat:Int)))::[]) W:=cast (by kernel_rfl) (laidMet.tail h0)
 have T0:=Lib.tabIs_of_head zv (t:=137) (e:=136) (n:=8) (by kernel_rfl) Tryz.underlying137 Tryz.underlying136 (by kernel_rfl) (by kernel_rfl) h0
 have T1:=Lib.tabIs_of_head Fz (t:=166) (e:=136) (n:=64) (by kernel_rfl) Tryz.underlying166 Tryz.underlying136 (by kernel_rfl) (by kernel_rfl) h1
 have lt:∀ {b:Nat} {v:Value},W.cell? ⟨b,0,none⟩=some v→b<W.heap.size:=fun {b v} h1=>by
  unfold World.cell? at h1
  cases hb:W.heap[b]? with
  | none=>simp only [hb]at h1;simp at h1
  | some o=>exact(Array.getElem?_eq_some_iff.1 hb).1
 have ad:∀ b j:Nat,(⟨b,0,none⟩:Addr).add j=⟨b,j,none⟩:=fun b j=>by unfold Addr.add;split<;>simp_all
 refine⟨⟨rfl,fun _=>⟨_,rfl,lt (T0.cell zv 0 (by decide)),fun j u hu=>?_⟩⟩,⟨by rw [SX.aB ur];rfl,fun _=>⟨_,rfl,lt (T1.cell Fz 0 (by decide)),fun j u hu=>?_⟩⟩⟩
 ·have hj:j<8:=(List.getElem?_eq_some_iff.1 hu).1
  rw [ad,T0.cell zv j (by rw [List.length_map];exact hj),← hu]
  have:∀ j,j<8→some (Value.int .u32 ((cF.cells.map fun v=>match v with|.int _ i=>i|_=>0).getD j 0))=cF.cells[j]?:=by
   intro j hj
   match j,hj with
   | 0,_=>rfl
   | 1,_=>rfl
   | 2,_=>rfl
   | 3,_=>rfl
   | 4,_=>rfl
   | 5,_=>rfl
   | 6,_=>rfl
   | 7,_=>rfl
  exact this j hj
 have hj:j<64:=by have:=(List.getElem?_eq_some_iff.1 hu).1;rw [SX.aB ur]at this;exact this
 rw [ad,T1.cell Fz j (by rw [List.length_map];exact hj),← hu,wZ,List.getElem?_map,List.getD_eq_getElem?_getD,List.getElem?_map,List.getElem?_eq_getElem (show j<cb.length from hj)]
 rfl
theorem Fj(os:Os)(args:Array Value):laidMetH Tryz.prog xg ((World.doorLaid Tryz.prog 400 os).forCall (fun _ _=>0) ⟨#[],args,[]⟩).memory :=
 laidMetH_of_parts3 (fuel:=8) (laidMet_of_run' 8 (by kernel_rfl) (by kernel_rfl)) (by kernel_rfl) (by kernel_rfl)
theorem LW(e f g:ca):g^^^(e&&&(f^^^g))=(e&&&f)^^^(~~~e&&&g):=by
 apply BitVec.eq_of_getLsbD_eq
 intro i hi
 simp only [BitVec.getLsbD_xor,BitVec.getLsbD_and,BitVec.getLsbD_not]
 cases e.getLsbD i<;>cases f.getLsbD i<;>cases g.getLsbD i<;>simp [hi]
theorem KQ(a b c:ca):(a&&&b)|||(c&&&(a|||b))=(a&&&b)^^^(a&&&c)^^^(b&&&c):=by
 apply BitVec.eq_of_getLsbD_eq
 intro i hi
 simp only [BitVec.getLsbD_xor,BitVec.getLsbD_and,BitVec.getLsbD_or]
 cases a.getLsbD i<;>cases b.getLsbD i<;>cases c.getLsbD i<;>rfl
def tr(a b c d:W8):ca:=a.setWidth 32<<<24|||b.setWidth 32<<<16|||c.setWidth 32<<<8|||d.setWidth 32
theorem Hi(a b c d:W8):tr a b c d=rR a b c d:=by
 unfold rR tr
 have h0:(0:ca)<<<(8+8+8)=0:=rfl
 simp only [BitVec.shiftLeft_or_distrib,← BitVec.shiftLeft_add,h0]
 rw [show ∀ x:ca,(0:ca)|||x=x from fun x=>BitVec.zero_or]
def aE(x:ca)(n:Nat):ca:=x>>>n|||x<<<(32-n)
theorem eD(x:ca){n:Nat}{k:Int}(hk:au k=32-n)(hn:n<32):aE x n=bY x (au k):=by
 unfold aE bY
 rw [hk,show 32-(32-n)=n by omega,BitVec.or_comm]
def DR(x:ca)(a b c:Nat):ca:=aE x a^^^aE x b^^^aE x c
theorem Le(x:ca):DR x 6 11 25=sig x 6 11 25:=by
 unfold DR sig
 rw [eD x (n:=6) (k:=-6) rfl (by omega),eD x (n:=11) (k:=-11) rfl (by omega),eD x (n:=25) (k:=-25) rfl (by omega)]
theorem Ld(x:ca):DR x 2 13 22=sig x 2 13 22:=by
 unfold DR sig
 rw [eD x (n:=2) (k:=-2) rfl (by omega),eD x (n:=13) (k:=-13) rfl (by omega),eD x (n:=22) (k:=-22) rfl (by omega)]
def Ac(u:List ca)(t:Nat):ca:=u.getD (t-16) 0+(aE (u.getD (t-15) 0) 7^^^aE (u.getD (t-15) 0) 18^^^u.getD (t-15) 0>>>3)+u.getD (t-7) 0+(aE (u.getD (t-2) 0) 17^^^aE (u.getD (t-2) 0) 19^^^u.getD (t-2) 0>>>10)
theorem DJ(u:List ca)(t:Nat):Ac u t=s4 u t:=by
 unfold Ac s4
 rw [eD _ (n:=7) (k:=-7) rfl (by omega),eD _ (n:=18) (k:=-18) rfl (by omega),eD _ (n:=17) (k:=-17) rfl (by omega),eD _ (n:=19) (k:=-19) rfl (by omega)]
def S8.rp(s:S8)(k w:ca):ca:=s.h+DR s.e 6 11 25+((s.e&&&s.f)^^^(~~~s.e&&&s.g))+k+w
def S8.rq(s:S8):ca:=DR s.a 2 13 22+((s.a&&&s.b)^^^(s.a&&&s.c)^^^(s.b&&&s.c))
theorem Jl(s:S8)(k w:ca):s.jk k w=⟨s.rp k w+s.rq,s.a,s.b,s.c,s.d+s.rp k w,s.e,s.f,s.g⟩:=by
 have hp:s.p k w=s.rp k w:=by unfold S8.p S8.rp;rw [Le,LW]
 have hq:s.q=s.rq:=by unfold S8.q S8.rq;rw [Ld,KQ]
 unfold S8.jk
 rw [hp,hq]
def km(n:Nat):Nat:=(119-n % 64) % 64
def o7(l:List W8):List W8:=l++[128]++List.replicate (km l.length) 0++lR (8*l.length)
theorem rZ(s:S8)(l t:List W8):cv s (l++t)=cv (cv s l).1 ((cv s l).2++t):=by
 induction hn:l.length using Nat.strongRecOn generalizing s l with
 | _ n ih =>
  by_cases h:64≤l.length
  ·rw [eO h,eO (by rw [List.length_append];omega),List.take_append_of_le_length h,List.drop_append_of_le_length h]
   exact ih _ (by rw [List.length_drop];omega) _ _ rfl
  rw [gA h]
theorem vY(s:S8)(l:List W8):(cv s l).2.length=l.length % 64:=by
 induction hn:l.length using Nat.strongRecOn generalizing s l with
 | _ n ih =>
  by_cases h:64≤l.length
  ·rw [eO h,ih _ (by rw [List.length_drop];omega) _ _ rfl,List.length_drop,hn];omega
  rw [gA h];show l.length=_;omega
theorem pG{s:S8}{l:List W8}(h:l.length=64):(cv s l).1=bD s l:=by
 rw [eO (by omega),List.take_of_length_le (by omega),gA (by rw [List.length_drop];omega)]
theorem yE{s:S8}{l t:List W8}(h:l.length=64)(ht:t.length=64):(cv s (l++t)).1=bD (bD s l) t:=by
 rw [eO (by rw [List.length_append];omega),List.take_left' h,List.drop_left' h,pG ht]
theorem nP(r:List W8)(h:r.length<64):marked r=r++[128]++List.replicate (63-r.length) 0:=by
 unfold marked
 rw [List.set_append_right _ _ (Nat.le_refl _),Nat.sub_self,show 64-r.length=(63-r.length)+1 by omega,List.replicate_succ,List.set_cons_zero,List.append_assoc,List.singleton_append]
theorem IF(s:S8)(r:List W8)(n:Nat)(h:r.length=n % 64):CO s r n=(cv s (r++[128]++List.replicate (km n) 0++lR (8*n))).1:=by
 have hr:r.length<64:=by omega
 have hb:(lR (8*n)).length=8:=rfl
 unfold CO km
 by_cases h55:55<r.length
 ·rw [if_pos h55]
  have e:(119-n % 64) % 64=(63-r.length)+56:=by omega
  rw [e,← List.replicate_append_replicate,← List.append_assoc,List.append_assoc,← nP r hr,yE]
  ·rw [nP r hr];simp;omega
  simp [hb]
 rw [if_neg h55]
 have e:(119-n % 64) % 64=55-r.length:=by omega
 have e2:(marked r).take 56=r++[128]++List.replicate (55-r.length) 0:=by
  rw [nP r hr,show 63-r.length=(55-r.length)+8 by omega,← List.replicate_append_replicate,← List.append_assoc]
  exact List.take_left' (by simp;omega)
 rw [e,← e2,pG]
 rw [List.length_append,hb,e2];simp;omega
theorem Jy(l:List W8):dl l=Dh (cv cF (o7 l)).1:=by
 unfold dl o7
 rw [IF _ _ _ (vY _ _)]
 simp only [List.append_assoc]
 rw [rZ cF l]
theorem Gf(l:List W8):(o7 l).length % 64=0:=by
 unfold o7 km
 simp only [List.length_append,List.length_replicate,List.length_cons,List.length_nil,show(lR (8*l.length)).length=8 from rfl]
 omega
def sB:List SX.V:=[.x 0 [],.x 1 []]
def ob:SX.Tree :=
(.df (.bin .shr 136) [(.q 0),(.q 1)] .one
(.df (.bin .sub 3) [(.i 32),(.q 1)] .one
(.df (.bin .shl 136) [(.q 0),(.q 3)] .one
(.df (.bin .or 136) [(.q 2),(.q 4)] .one
(.ret (.q 5) [] [])))))
theorem G9(K A:PZ):PY (rW K A) ⟨fun _=>false,[],0,100⟩ 138 Tryz.f138 sB [.one,.one]=ob:=by kernel_rfl
theorem GO(x:ca)(n:Nat)(h0:0<n)(hn:n<32)(w:World):RT 138 #[aA x,.int .i64 (n:Int)] w (aA (aE x n)):=by
 refine b7 (C:=rW P0 P0) (G:=⟨fun _=>false,[],0,100⟩) (args:=sB) (sh:=[.one,.one]) (ρ:=[aA x,.int .i64 (n:Int)]) 100000 ob (eJ _ _) Tryz.func138 rfl (cast (by kernel_rfl) (G9 P0 P0)) (by kernel_rfl) (by kernel_rfl) (by kernel_rfl) (fun _ _ _ _ _ h=>h.elim) ?_
 unfold ob
 refine PJ (aA (x>>>n)) (rQ x .i64 n hn) ?_
 refine PJ (.int .i64 ((32-n:Nat):Int)) (uC (a:=32) (b:=n) (d:=32-n) (by omega) (by omega)) ?_
 refine PJ (aA (x<<<(32-n))) (oZ x .i64 (32-n) (by omega)) ?_
 refine PJ (aA (aE x n)) (rP (x>>>n) (x<<<(32-n))) ?_
 exact PI (aA (aE x n)) rfl
def pN:List SX.V:=[.x 0 []]
def mg:SX.Tree :=
(.df .bnd [(.q 0),(.i 0)] .one
(.df (.elem 1 0) [(.q 0),(.i 0)] .one
(.df (.conv .u32) [(.q 2)] .one
(.df (.bin .shl 136) [(.q 3),(.k (.int .u64 24))] .one
(.df .bnd [(.q 0),(.i 1)] .one
(.df (.elem 1 0) [(.q 0),(.i 1)] .one
(.df (.conv .u32) [(.q 6)] .one
(.df (.bin .shl 136) [(.q 7),(.k (.int .u64 16))] .one
(.df (.bin .or 136) [(.q 4),(.q 8)] .one
(.df .bnd [(.q 0),(.i 2)] .one
(.df (.elem 1 0) [(.q 0),(.i 2)] .one
(.df (.conv .u32) [(.q 11)] .one
(.df (.bin .shl 136) [(.q 12),(.k (.int .u64 8))] .one
(.df (.bin .or 136) [(.q 9),(.q 13)] .one
(.df .bnd [(.q 0),(.i 3)] .one
(.df (.elem 1 0) [(.q 0),(.i 3)] .one
(.df (.conv .u32) [(.q 16)] .one
(.df (.bin .or 136) [(.q 14),(.q 17)] .one
(.ret (.q 18) [] [])))))))))))))))))))
theorem El(K A:PZ):PY (rW K A) ⟨fun _=>false,[],0,100⟩ 137 Tryz.f137 pN [.any]=mg:=by kernel_rfl
theorem Er(b0 b1 b2 b3:W8)(A:Option Addr)(n c:Nat)(w:World)(hr:Rd w 1 A n ([b0,b1,b2,b3].flatMap c8))(hc:n≤c):RT 137 #[.slice A n c] w (aA (tr b0 b1 b2 b3)):=by
 obtain rfl:4=n:=by have:=hr.1;rw [SX.aB aF]at this;simpa using this
 have hA:=SX.rd_some hr
 refine b7 (C:=rW (fun v z xs=>v=.slice A 4 c∧z=1∧xs=[b0,b1,b2,b3].flatMap c8) P0) (G:=⟨fun _=>false,[],0,100⟩) (args:=pN) (sh:=[.any]) (ρ:=[.slice A 4 c]) 100000 mg (eJ _ _) Tryz.func137 rfl (cast (by kernel_rfl) (El (fun v z xs=>v=.slice A 4 c∧z=1∧xs=[b0,b1,b2,b3].flatMap c8) P0)) (by kernel_rfl) (by kernel_rfl) (by kernel_rfl) (fun W hW v z xs ⟨h1,h2,h3⟩=>by subst h1;subst h2;subst h3;exact⟨hr.aD hW,hc⟩) ?_
 unfold mg
 refine PQ A 4 c 0 hA (by omega) ?_
 refine PG (w8 b0) (fun α=>bx (f:=c8) (l:=[b0,b1,b2,b3]) (A:=A) (n:=4) (c:=c) (j:=0) (z:=b0) aF hA (by kernel_rfl) (by kernel_rfl) (by omega) ⟨rfl,rfl,rfl⟩ rfl (by omega) rfl) ?_
 refine PJ (aA (b0.setWidth 32)) (iC b0) ?_
 refine PJ (aA ((b0.setWidth 32:ca)<<<24)) (oZ (b0.setWidth 32:ca) .u64 24 (by omega)) ?_
 refine PQ A 4 c 1 hA (by omega) ?_
 refine PG (w8 b1) (fun α=>bx (f:=c8) (l:=[b0,b1,b2,b3]) (A:=A) (n:=4) (c:=c) (j:=1) (z:=b1) aF hA (by kernel_rfl) (by kernel_rfl) (by omega) ⟨rfl,rfl,rfl⟩ rfl (by omega) rfl) ?_
 refine PJ (aA (b1.setWidth 32)) (iC b1) ?_
 refine PJ (aA ((b1.setWidth 32:ca)<<<16)) (oZ (b1.setWidth 32:ca) .u64 16 (by omega)) ?_
 refine PJ (aA (((b0.setWidth 32:ca)<<<24)|||((b1.setWidth 32:ca)<<<16))) (rP ((b0.setWidth 32:ca)<<<24) ((b1.setWidth 32:ca)<<<16)) ?_
 refine PQ A 4 c 2 hA (by omega) ?_
 refine PG (w8 b2) (fun α=>bx (f:=c8) (l:=[b0,b1,b2,b3]) (A:=A) (n:=4) (c:=c) (j:=2) (z:=b2) aF hA (by kernel_rfl) (by kernel_rfl) (by omega) ⟨rfl,rfl,rfl⟩ rfl (by omega) rfl) ?_
 refine PJ (aA (b2.setWidth 32)) (iC b2) ?_
 refine PJ (aA ((b2.setWidth 32:ca)<<<8)) (oZ (b2.setWidth 32:ca) .u64 8 (by omega)) ?_
 refine PJ (aA ((((b0.setWidth 32:ca)<<<24)|||((b1.setWidth 32:ca)<<<16))|||((b2.setWidth 32:ca)<<<8))) (rP (((b0.setWidth 32:ca)<<<24)|||((b1.setWidth 32:ca)<<<16)) ((b2.setWidth 32:ca)<<<8)) ?_
 refine PQ A 4 c 3 hA (by omega) ?_
 refine PG (w8 b3) (fun α=>bx (f:=c8) (l:=[b0,b1,b2,b3]) (A:=A) (n:=4) (c:=c) (j:=3) (z:=b3) aF hA (by kernel_rfl) (by kernel_rfl) (by omega) ⟨rfl,rfl,rfl⟩ rfl (by omega) rfl) ?_
 refine PJ (aA (b3.setWidth 32)) (iC b3) ?_
 refine PJ (aA (((((b0.setWidth 32:ca)<<<24)|||((b1.setWidth 32:ca)<<<16))|||((b2.setWidth 32:ca)<<<8))|||(b3.setWidth 32:ca))) (rP ((((b0.setWidth 32:ca)<<<24)|||((b1.setWidth 32:ca)<<<16))|||((b2.setWidth 32:ca)<<<8)) (b3.setWidth 32:ca)) ?_
 exact PI (aA (tr b0 b1 b2 b3)) rfl
def pM:List SX.V:=[]
def mf:SX.Tree :=
(.ret (.a [(.k (.int .u32 1116352408)),(.k (.int .u32 1899447441)),(.k (.int .u32 3049323471)),(.k (.int .u32 3921009573)),(.k (.int .u32 961987163)),(.k (.int .u32 1508970993)),(.k (.int .u32 2453635748)),(.k (.int .u32 2870763221)),(.k (.int .u32 3624381080)),(.k (.int .u32 310598401)),(.k (.int .u32 607225278)),(.k (.int .u32 1426881987)),(.k (.int .u32 1925078388)),(.k (.int .u32 2162078206)),(.k (.int .u32 2614888103)),(.k (.int .u32 3248222580)),(.k (.int .u32 3835390401)),(.k (.int .u32 4022224774)),(.k (.int .u32 264347078)),(.k (.int .u32 604807628)),(.k (.int .u32 770255983)),(.k (.int .u32 1249150122)),(.k (.int .u32 1555081692)),(.k (.int .u32 1996064986)),(.k (.int .u32 2554220882)),(.k (.int .u32 2821834349)),(.k (.int .u32 2952996808)),(.k (.int .u32 3210313671)),(.k (.int .u32 3336571891)),(.k (.int .u32 3584528711)),(.k (.int .u32 113926993)),(.k (.int .u32 338241895)),(.k (.int .u32 666307205)),(.k (.int .u32 773529912)),(.k (.int .u32 1294757372)),(.k (.int .u32 1396182291)),(.k (.int .u32 1695183700)),(.k (.int .u32 1986661051)),(.k (.int .u32 2177026350)),(.k (.int .u32 2456956037)),(.k (.int .u32 2730485921)),(.k (.int .u32 2820302411)),(.k (.int .u32 3259730800)),(.k (.int .u32 3345764771)),(.k (.int .u32 3516065817)),(.k (.int .u32 3600352804)),(.k (.int .u32 4094571909)),(.k (.int .u32 275423344)),(.k (.int .u32 430227734)),(.k (.int .u32 506948616)),(.k (.int .u32 659060556)),(.k (.int .u32 883997877)),(.k (.int .u32 958139571)),(.k (.int .u32 1322822218)),(.k (.int .u32 1537002063)),(.k (.int .u32 1747873779)),(.k (.int .u32 1955562222)),(.k (.int .u32 2024104815)),(.k (.int .u32 2227730452)),(.k (.int .u32 2361852424)),(.k (.int .u32 2428436474)),(.k (.int .u32 2756734187)),(.k (.int .u32 3204031479)),(.k (.int .u32 3329325298))]) [] [])
theorem Eh(K A:PZ):PY (rW K A) ⟨fun _=>false,[],0,100⟩ 139 Tryz.f139 pM []=mf:=by kernel_rfl
theorem DM(w:World):RT 139 #[] w (.agg (cb.flatMap y9).toArray):=by
 refine b7 (C:=rW P0 P0) (G:=⟨fun _=>false,[],0,100⟩) (args:=pM) (sh:=[]) (ρ:=[]) 100000 mf (eJ _ _) Tryz.func139 rfl (cast (by kernel_rfl) (Eh P0 P0)) (by kernel_rfl) (by kernel_rfl) (by kernel_rfl) (fun _ _ _ _ _ h=>h.elim) ?_
 unfold mf
 exact PI (.agg (cb.flatMap y9).toArray) rfl
def NQ(f:FuncId)(xs:List SX.Arg)(v:Value):Prop:=f=138∧∃ (x:ca) (n:Nat),0<n∧n<32∧xs=[⟨aA x,0,[]⟩,⟨.int .i64 (n:Int),0,[]⟩]∧v=aA (aE x n)
def J6(f:FuncId)(xs:List SX.Arg)(v:Value):Prop:=f=137∧∃ (u:Value) (l:List W8),l.length=4∧xs=[⟨u,1,l.flatMap c8⟩]∧v=aA (tr (l.getD 0 0) (l.getD 1 0) (l.getD 2 0) (l.getD 3 0))
def J5(f:FuncId)(xs:List SX.Arg)(v:Value):Prop:=f=139∧xs=[]∧v=.agg (cb.flatMap y9).toArray
noncomputable def NU(K A:PZ):SX.Cx:={ P:=Tryz.prog,R:=fun _ f xs v=>NQ f xs v∨J6 f xs v∨J5 f xs v,shp:=fun f=>if f∈[138,137]then some .one else if f=139 then some (.ag 64)else none,K:=K,A:=A,arr:=true,trm:=true }
theorem Ke(K A:PZ):(NU K A).Ok:=SX.Cx.bP (fun _=>rfl) fun _ f xs v W h hrd hK=>by
 rcases h with ⟨rfl,x,n,h0,hn,rfl,rfl⟩|⟨rfl,u,l,hl,rfl,rfl⟩|⟨rfl,rfl,rfl⟩
 ·exact(GO x n h0 hn W).mono fun e w' h=>al rfl h
 ·obtain⟨A,n,c,rfl,hr,hc,hn⟩:=cI (hrd ⟨u,1,l.flatMap c8⟩ (List.mem_singleton_self _))
  have e:l=[l.getD 0 0,l.getD 1 0,l.getD 2 0,l.getD 3 0]:=by rw [← JY l (by omega),List.take_of_length_le (by omega)]
  rw [e]at hr
  exact(Er _ _ _ _ A n c W hr hc).mono fun e w' h=>al rfl h
 exact(DM W).mono fun e w' h=>al rfl h
theorem ew{C:SX.Cx}{ρ:List Value}{α:Nat→SX.AV}{s i i':SX.V}{A:Option Addr}{n c lo hi sz:Nat}(hs:s.den ρ α=.slice A n c)(h1:i.den ρ α=.int .i64 (lo:Int))(h2:i'.den ρ α=.int .i64 (hi:Int))(hl:lo≤hi)(hh:hi≤c):cO.rel C ρ α (.slc false sz true true false) [s,i,i'] (bi A sz lo hi c):=by
 show nY _ _ _ _ _ _=_
 simp only [ab,hs,h1,h2,nY,iZ,Option.bind_some,bU,ik]
 rw [if_pos (by omega)]
 simp only [Option.bind_some,Int.toNat_natCast]
 rw [if_pos (by omega)]
 simp [bi]
theorem Nv(x:ca):Iv (aA x)=some (aA (~~~x)):=by
 have h:(BitVec.ofInt 32 (x.toNat:Int))=x:=by apply BitVec.eq_of_toNat_eq;simp
 show some (Value.int .u32 (IntKind.u32.wrap ((BitVec.ofInt 32 (4294967295:Int)^^^BitVec.ofInt 32 (x.toNat:Int):BitVec 32).toNat:Int)))=_
 rw [h,wrap_u32]
 have e:(BitVec.ofInt 32 (4294967295:Int))^^^x= ~~~x:=by
  rw [show(BitVec.ofInt 32 (4294967295:Int))=BitVec.allOnes 32 from rfl,BitVec.allOnes_xor]
 rw [e,BitVec.ofNat_toNat,BitVec.setWidth_eq]
 rfl
theorem cM(l:List W8)(t:Nat)(h:4*t+4≤l.length):tr (((l.drop (4*t)).take 4).getD 0 0) (((l.drop (4*t)).take 4).getD 1 0) (((l.drop (4*t)).take 4).getD 2 0) (((l.drop (4*t)).take 4).getD 3 0)=ai l t:=by
 rw [Hi]
 unfold ai
 simp only [List.getD_eq_getElem?_getD,List.getElem?_take,List.getElem?_drop]
 rfl
def og:List SX.V:=[.a ((List.range 8).map fun j=>.x j []),.x 8 []]
def kH:SX.Tree :=
(.df (.slc false 1 true true false) [(.q 8),(.i 0),(.i 4)] .one
(.df (.call 137 [(.ext 1)]) [(.q 9)] .one
(.df (.slc false 1 true true false) [(.q 8),(.i 4),(.i 8)] .one
(.df (.call 137 [(.ext 1)]) [(.q 11)] .one
(.df (.slc false 1 true true false) [(.q 8),(.i 8),(.i 12)] .one
(.df (.call 137 [(.ext 1)]) [(.q 13)] .one
(.df (.slc false 1 true true false) [(.q 8),(.i 12),(.i 16)] .one
(.df (.call 137 [(.ext 1)]) [(.q 15)] .one
(.df (.slc false 1 true true false) [(.q 8),(.i 16),(.i 20)] .one
(.df (.call 137 [(.ext 1)]) [(.q 17)] .one
(.df (.slc false 1 true true false) [(.q 8),(.i 20),(.i 24)] .one
(.df (.call 137 [(.ext 1)]) [(.q 19)] .one
(.df (.slc false 1 true true false) [(.q 8),(.i 24),(.i 28)] .one
(.df (.call 137 [(.ext 1)]) [(.q 21)] .one
(.df (.slc false 1 true true false) [(.q 8),(.i 28),(.i 32)] .one
(.df (.call 137 [(.ext 1)]) [(.q 23)] .one
(.df (.slc false 1 true true false) [(.q 8),(.i 32),(.i 36)] .one
(.df (.call 137 [(.ext 1)]) [(.q 25)] .one
(.df (.slc false 1 true true false) [(.q 8),(.i 36),(.i 40)] .one
(.df (.call 137 [(.ext 1)]) [(.q 27)] .one
(.df (.slc false 1 true true false) [(.q 8),(.i 40),(.i 44)] .one
(.df (.call 137 [(.ext 1)]) [(.q 29)] .one
(.df (.slc false 1 true true false) [(.q 8),(.i 44),(.i 48)] .one
(.df (.call 137 [(.ext 1)]) [(.q 31)] .one
(.df (.slc false 1 true true false) [(.q 8),(.i 48),(.i 52)] .one
(.df (.call 137 [(.ext 1)]) [(.q 33)] .one
(.df (.slc false 1 true true false) [(.q 8),(.i 52),(.i 56)] .one
(.df (.call 137 [(.ext 1)]) [(.q 35)] .one
(.df (.slc false 1 true true false) [(.q 8),(.i 56),(.i 60)] .one
(.df (.call 137 [(.ext 1)]) [(.q 37)] .one
(.df (.slc false 1 true true false) [(.q 8),(.i 60),(.i 64)] .one
(.df (.call 137 [(.ext 1)]) [(.q 39)] .one
(.loop ([(.i 16),(.q 10),(.q 12),(.q 14),(.q 16),(.q 18),(.q 20),(.q 22),(.q 24),(.q 26),(.q 28),(.q 30),(.q 32),(.q 34),(.q 36),(.q 38),(.q 40)]++PP 48 (.k (.int .u32 0))) (PP 65 .one)
(.df (.bin .lss 3) [(.q 41),(.i 64)] .one
(.br 106 []
(.df (.bin .sub 3) [(.q 41),(.i 15)] .one
(.df .bnd [(.sl 2 0 64 64),(.q 107)] .one
(.df (.relem 1 0) [(.cat [(.a (PO 42 64))]),(.q 107)] .one
(.df (.bin .sub 3) [(.q 41),(.i 2)] .one
(.df .bnd [(.sl 2 0 64 64),(.q 110)] .one
(.df (.relem 1 0) [(.cat [(.a (PO 42 64))]),(.q 110)] .one
(.df (.bin .sub 3) [(.q 41),(.i 16)] .one
(.df .bnd [(.sl 2 0 64 64),(.q 113)] .one
(.df (.relem 1 0) [(.cat [(.a (PO 42 64))]),(.q 113)] .one
(.df (.call 138 [.no,.no]) [(.q 109),(.i 7)] .one
(.df (.call 138 [.no,.no]) [(.q 109),(.i 18)] .one
(.df (.bin .xor 136) [(.q 116),(.q 117)] .one
(.df (.bin .shr 136) [(.q 109),(.k (.int .u64 3))] .one
(.df (.bin .xor 136) [(.q 118),(.q 119)] .one
(.df (.bin .add 136) [(.q 115),(.q 120)] .one
(.df (.bin .sub 3) [(.q 41),(.i 7)] .one
(.df .bnd [(.sl 2 0 64 64),(.q 122)] .one
(.df (.relem 1 0) [(.cat [(.a (PO 42 64))]),(.q 122)] .one
(.df (.bin .add 136) [(.q 121),(.q 124)] .one
(.df (.call 138 [.no,.no]) [(.q 112),(.i 17)] .one
(.df (.call 138 [.no,.no]) [(.q 112),(.i 19)] .one
(.df (.bin .xor 136) [(.q 126),(.q 127)] .one
(.df (.bin .shr 136) [(.q 112),(.k (.int .u64 10))] .one
(.df (.bin .xor 136) [(.q 128),(.q 129)] .one
(.df (.bin .add 136) [(.q 125),(.q 130)] .one
(.df .bnd [(.sl 2 0 64 64),(.q 41)] .one
(.df (.rset 1 0) [(.cat [(.a (PO 42 64))]),(.q 41),(.q 131)] (.ag 64)
(.df (.bin .add 3) [(.q 41),(.i 1)] .one
(.again 0 ([(.q 134)]++PN 133 0 64))))))))))))))))))))))))))))))
(.df (.call 139 []) [] (.ag 64)
(.loop ([(.i 0)]++PO 0 8) (PP 9 .one)
(.df (.bin .lss 3) [(.q 108),(.i 64)] .one
(.br 117 []
(.df (.call 138 [.no,.no]) [(.q 113),(.i 6)] .one
(.df (.call 138 [.no,.no]) [(.q 113),(.i 11)] .one
(.df (.bin .xor 136) [(.q 118),(.q 119)] .one
(.df (.call 138 [.no,.no]) [(.q 113),(.i 25)] .one
(.df (.bin .xor 136) [(.q 120),(.q 121)] .one
(.df (.bin .add 136) [(.q 116),(.q 122)] .one
(.df (.bin .and 136) [(.q 113),(.q 114)] .one
(.df .cpl [(.q 113)] .one
(.df (.bin .and 136) [(.q 125),(.q 115)] .one
(.df (.bin .xor 136) [(.q 124),(.q 126)] .one
(.df (.bin .add 136) [(.q 123),(.q 127)] .one
(.df .bnd [(.sl 68 0 64 64),(.q 108)] .one
(.df (.relem 1 0) [(.cat [(.a (PN 107 0 64))]),(.q 108)] .one
(.df (.bin .add 136) [(.q 128),(.q 130)] .one
(.df .bnd [(.sl 2 0 64 64),(.q 108)] .one
(.df (.relem 1 0) [(.cat [(.a (PO 42 64))]),(.q 108)] .one
(.df (.bin .add 136) [(.q 131),(.q 133)] .one
(.df (.call 138 [.no,.no]) [(.q 109),(.i 2)] .one
(.df (.call 138 [.no,.no]) [(.q 109),(.i 13)] .one
(.df (.bin .xor 136) [(.q 135),(.q 136)] .one
(.df (.call 138 [.no,.no]) [(.q 109),(.i 22)] .one
(.df (.bin .xor 136) [(.q 137),(.q 138)] .one
(.df (.bin .and 136) [(.q 109),(.q 110)] .one
(.df (.bin .and 136) [(.q 109),(.q 111)] .one
(.df (.bin .xor 136) [(.q 140),(.q 141)] .one
(.df (.bin .and 136) [(.q 110),(.q 111)] .one
(.df (.bin .xor 136) [(.q 142),(.q 143)] .one
(.df (.bin .add 136) [(.q 139),(.q 144)] .one
(.df (.bin .add 136) [(.q 112),(.q 134)] .one
(.df (.bin .add 136) [(.q 134),(.q 145)] .one
(.df (.bin .add 3) [(.q 108),(.i 1)] .one
(.again 1 ([(.q 148),(.q 147)]++PO 109 3++[(.q 146)]++PO 113 3)))))))))))))))))))))))))))))))))
(.df (.bin .add 136) [(.q 0),(.q 109)] .one
(.df (.bin .add 136) [(.q 1),(.q 110)] .one
(.df (.bin .add 136) [(.q 2),(.q 111)] .one
(.df (.bin .add 136) [(.q 3),(.q 112)] .one
(.df (.bin .add 136) [(.q 4),(.q 113)] .one
(.df (.bin .add 136) [(.q 5),(.q 114)] .one
(.df (.bin .add 136) [(.q 6),(.q 115)] .one
(.df (.bin .add 136) [(.q 7),(.q 116)] .one
(.ret (.a (PO 118 8)) [] []))))))))))))))))))))))))))))))))))))))))))))))))
theorem Ar(K A:PZ):PY (NU K A) ⟨fun _=>false,[⟨118,7,([(.s 7,.one)]++(List.range 64).map fun j=>(.c 12 j,.one))⟩,⟨118,7,([(.s 7,.one)]++(List.range 64).map fun j=>(.c 11 j,.one))⟩,⟨118,7,([(.s 7,.one)]++(List.range 64).map fun j=>(.c 10 j,.one))⟩,⟨118,7,([(.s 7,.one)]++(List.range 64).map fun j=>(.c 9 j,.one))⟩,⟨118,7,([(.s 7,.one)]++(List.range 64).map fun j=>(.c 8 j,.one))⟩,⟨118,7,([(.s 7,.one)]++(List.range 64).map fun j=>(.c 7 j,.one))⟩,⟨118,7,([(.s 7,.one)]++(List.range 64).map fun j=>(.c 6 j,.one))⟩,⟨118,7,([(.s 7,.one)]++(List.range 64).map fun j=>(.c 5 j,.one))⟩,⟨118,7,([(.s 7,.one)]++(List.range 64).map fun j=>(.c 4 j,.one))⟩,⟨118,7,([(.s 7,.one)]++(List.range 64).map fun j=>(.c 3 j,.one))⟩,⟨118,7,([(.s 7,.one)]++(List.range 64).map fun j=>(.c 2 j,.one))⟩,⟨118,7,([(.s 7,.one)]++(List.range 64).map fun j=>(.c 1 j,.one))⟩,⟨118,15,[(.s 19,.one),(.s 11,.one),(.s 12,.one),(.s 13,.one),(.s 14,.one),(.s 15,.one),(.s 16,.one),(.s 17,.one),(.s 18,.one)]⟩],0,100⟩ 118 Tryz.f118 og (List.replicate 8 .one++[.any])=kH:=by kernel_rfl
theorem zW(s:S8)(l:List W8)(hl:l.length=64)(A:Option Addr)(n c:Nat)(w:World)(hr:Rd w 1 A n (l.flatMap c8))(hc:n≤c):RT 118 #[.agg s.cells.toArray,.slice A n c] w (.agg (bD s l).cells.toArray):=by
 obtain rfl:n=64:=by have:=hr.1;rw [SX.aB aF]at this;omega
 refine b7 (C:=NU (lq A 64 c 1 (l.flatMap c8)) P0) (G:=⟨fun _=>false,[⟨118,7,([(.s 7,.one)]++(List.range 64).map fun j=>(.c 12 j,.one))⟩,⟨118,7,([(.s 7,.one)]++(List.range 64).map fun j=>(.c 11 j,.one))⟩,⟨118,7,([(.s 7,.one)]++(List.range 64).map fun j=>(.c 10 j,.one))⟩,⟨118,7,([(.s 7,.one)]++(List.range 64).map fun j=>(.c 9 j,.one))⟩,⟨118,7,([(.s 7,.one)]++(List.range 64).map fun j=>(.c 8 j,.one))⟩,⟨118,7,([(.s 7,.one)]++(List.range 64).map fun j=>(.c 7 j,.one))⟩,⟨118,7,([(.s 7,.one)]++(List.range 64).map fun j=>(.c 6 j,.one))⟩,⟨118,7,([(.s 7,.one)]++(List.range 64).map fun j=>(.c 5 j,.one))⟩,⟨118,7,([(.s 7,.one)]++(List.range 64).map fun j=>(.c 4 j,.one))⟩,⟨118,7,([(.s 7,.one)]++(List.range 64).map fun j=>(.c 3 j,.one))⟩,⟨118,7,([(.s 7,.one)]++(List.range 64).map fun j=>(.c 2 j,.one))⟩,⟨118,7,([(.s 7,.one)]++(List.range 64).map fun j=>(.c 1 j,.one))⟩,⟨118,15,[(.s 19,.one),(.s 11,.one),(.s 12,.one),(.s 13,.one),(.s 14,.one),(.s 15,.one),(.s 16,.one),(.s 17,.one),(.s 18,.one)]⟩],0,100⟩) (args:=og) (sh:=(List.replicate 8 .one++[.any])) (ρ:=[aA s.a,aA s.b,aA s.c,aA s.d,aA s.e,aA s.f,aA s.g,aA s.h,.slice A 64 c]) 100000 kH (Ke _ _) Tryz.func118 rfl (cast (by kernel_rfl) (Ar (lq A 64 c 1 (l.flatMap c8)) P0)) (by kernel_rfl) (by kernel_rfl) (by kernel_rfl) (fun W hW s z xs h=>lq.rd (hr.aD hW) h) ?_
 have part:∀ t,t<16→lq A 64 c 1 (l.flatMap c8) (bi A 1 (4*t) (4*t+4) c) 1 (((l.drop (4*t)).take 4).flatMap c8):=fun t ht=>by
  have:=lq.part aF (A:=A) (n:=64) (c:=c) (L:=l) (l:=4*t) (h:=4*t+4) (m:=c) (by omega) (by omega) (by omega) (by omega)
  rwa [show 4*t+4-4*t=4 by omega]at this
 unfold kH
 refine PG (bi A 1 0 4 c) (fun α=>ew (n:=64) (lo:=0) (hi:=4) (by kernel_rfl) (by kernel_rfl) (by kernel_rfl) (by omega) (by omega)) ?_
 refine PG (aA (ai l 0)) (fun α=>⟨[⟨bi A 1 0 4 c,1,((l.drop (4*0)).take 4).flatMap c8⟩],⟨by kernel_rfl,rfl,cast (by kernel_rfl) (part 0 (by omega)),trivial⟩,.inr (.inl ⟨rfl,_,_,by rw [List.length_take,List.length_drop];omega,rfl,by rw [cM l 0 (by omega)]⟩),af rfl⟩) ?_
 refine PG (bi A 1 4 8 c) (fun α=>ew (n:=64) (lo:=4) (hi:=8) (by kernel_rfl) (by kernel_rfl) (by kernel_rfl) (by omega) (by omega)) ?_
 refine PG (aA (ai l 1)) (fun α=>⟨[⟨bi A 1 4 8 c,1,((l.drop (4*1)).take 4).flatMap c8⟩],⟨by kernel_rfl,rfl,cast (by kernel_rfl) (part 1 (by omega)),trivial⟩,.inr (.inl ⟨rfl,_,_,by rw [List.length_take,List.length_drop];omega,rfl,by rw [cM l 1 (by omega)]⟩),af rfl⟩) ?_
 refine PG (bi A 1 8 12 c) (fun α=>ew (n:=64) (lo:=8) (hi:=12) (by kernel_rfl) (by kernel_rfl) (by kernel_rfl) (by omega) (by omega)) ?_
 refine PG (aA (ai l 2)) (fun α=>⟨[⟨bi A 1 8 12 c,1,((l.drop (4*2)).take 4).flatMap c8⟩],⟨by kernel_rfl,rfl,cast (by kernel_rfl) (part 2 (by omega)),trivial⟩,.inr (.inl ⟨rfl,_,_,by rw [List.length_take,List.length_drop];omega,rfl,by rw [cM l 2 (by omega)]⟩),af rfl⟩) ?_
 refine PG (bi A 1 12 16 c) (fun α=>ew (n:=64) (lo:=12) (hi:=16) (by kernel_rfl) (by kernel_rfl) (by kernel_rfl) (by omega) (by omega)) ?_
 refine PG (aA (ai l 3)) (fun α=>⟨[⟨bi A 1 12 16 c,1,((l.drop (4*3)).take 4).flatMap c8⟩],⟨by kernel_rfl,rfl,cast (by kernel_rfl) (part 3 (by omega)),trivial⟩,.inr (.inl ⟨rfl,_,_,by rw [List.length_take,List.length_drop];omega,rfl,by rw [cM l 3 (by omega)]⟩),af rfl⟩) ?_
 refine PG (bi A 1 16 20 c) (fun α=>ew (n:=64) (lo:=16) (hi:=20) (by kernel_rfl) (by kernel_rfl) (by kernel_rfl) (by omega) (by omega)) ?_
 refine PG (aA (ai l 4)) (fun α=>⟨[⟨bi A 1 16 20 c,1,((l.drop (4*4)).take 4).flatMap c8⟩],⟨by kernel_rfl,rfl,cast (by kernel_rfl) (part 4 (by omega)),trivial⟩,.inr (.inl ⟨rfl,_,_,by rw [List.length_take,List.length_drop];omega,rfl,by rw [cM l 4 (by omega)]⟩),af rfl⟩) ?_
 refine PG (bi A 1 20 24 c) (fun α=>ew (n:=64) (lo:=20) (hi:=24) (by kernel_rfl) (by kernel_rfl) (by kernel_rfl) (by omega) (by omega)) ?_
 refine PG (aA (ai l 5)) (fun α=>⟨[⟨bi A 1 20 24 c,1,((l.drop (4*5)).take 4).flatMap c8⟩],⟨by kernel_rfl,rfl,cast (by kernel_rfl) (part 5 (by omega)),trivial⟩,.inr (.inl ⟨rfl,_,_,by rw [List.length_take,List.length_drop];omega,rfl,by rw [cM l 5 (by omega)]⟩),af rfl⟩) ?_
 refine PG (bi A 1 24 28 c) (fun α=>ew (n:=64) (lo:=24) (hi:=28) (by kernel_rfl) (by kernel_rfl) (by kernel_rfl) (by omega) (by omega)) ?_
 refine PG (aA (ai l 6)) (fun α=>⟨[⟨bi A 1 24 28 c,1,((l.drop (4*6)).take 4).flatMap c8⟩],⟨by kernel_rfl,rfl,cast (by kernel_rfl) (part 6 (by omega)),trivial⟩,.inr (.inl ⟨rfl,_,_,by rw [List.length_take,List.length_drop];omega,rfl,by rw [cM l 6 (by omega)]⟩),af rfl⟩) ?_
 refine PG (bi A 1 28 32 c) (fun α=>ew (n:=64) (lo:=28) (hi:=32) (by kernel_rfl) (by kernel_rfl) (by kernel_rfl) (by omega) (by omega)) ?_
 refine PG (aA (ai l 7)) (fun α=>⟨[⟨bi A 1 28 32 c,1,((l.drop (4*7)).take 4).flatMap c8⟩],⟨by kernel_rfl,rfl,cast (by kernel_rfl) (part 7 (by omega)),trivial⟩,.inr (.inl ⟨rfl,_,_,by rw [List.length_take,List.length_drop];omega,rfl,by rw [cM l 7 (by omega)]⟩),af rfl⟩) ?_
 refine PG (bi A 1 32 36 c) (fun α=>ew (n:=64) (lo:=32) (hi:=36) (by kernel_rfl) (by kernel_rfl) (by kernel_rfl) (by omega) (by omega)) ?_
 refine PG (aA (ai l 8)) (fun α=>⟨[⟨bi A 1 32 36 c,1,((l.drop (4*8)).take 4).flatMap c8⟩],⟨by kernel_rfl,rfl,cast (by kernel_rfl) (part 8 (by omega)),trivial⟩,.inr (.inl ⟨rfl,_,_,by rw [List.length_take,List.length_drop];omega,rfl,by rw [cM l 8 (by omega)]⟩),af rfl⟩) ?_
 refine PG (bi A 1 36 40 c) (fun α=>ew (n:=64) (lo:=36) (hi:=40) (by kernel_rfl) (by kernel_rfl) (by kernel_rfl) (by omega) (by omega)) ?_
 refine PG (aA (ai l 9)) (fun α=>⟨[⟨bi A 1 36 40 c,1,((l.drop (4*9)).take 4).flatMap c8⟩],⟨by kernel_rfl,rfl,cast (by kernel_rfl) (part 9 (by omega)),trivial⟩,.inr (.inl ⟨rfl,_,_,by rw [List.length_take,List.length_drop];omega,rfl,by rw [cM l 9 (by omega)]⟩),af rfl⟩) ?_
 refine PG (bi A 1 40 44 c) (fun α=>ew (n:=64) (lo:=40) (hi:=44) (by kernel_rfl) (by kernel_rfl) (by kernel_rfl) (by omega) (by omega)) ?_
 refine PG (aA (ai l 10)) (fun α=>⟨[⟨bi A 1 40 44 c,1,((l.drop (4*10)).take 4).flatMap c8⟩],⟨by kernel_rfl,rfl,cast (by kernel_rfl) (part 10 (by omega)),trivial⟩,.inr (.inl ⟨rfl,_,_,by rw [List.length_take,List.length_drop];omega,rfl,by rw [cM l 10 (by omega)]⟩),af rfl⟩) ?_
 refine PG (bi A 1 44 48 c) (fun α=>ew (n:=64) (lo:=44) (hi:=48) (by kernel_rfl) (by kernel_rfl) (by kernel_rfl) (by omega) (by omega)) ?_
 refine PG (aA (ai l 11)) (fun α=>⟨[⟨bi A 1 44 48 c,1,((l.drop (4*11)).take 4).flatMap c8⟩],⟨by kernel_rfl,rfl,cast (by kernel_rfl) (part 11 (by omega)),trivial⟩,.inr (.inl ⟨rfl,_,_,by rw [List.length_take,List.length_drop];omega,rfl,by rw [cM l 11 (by omega)]⟩),af rfl⟩) ?_
 refine PG (bi A 1 48 52 c) (fun α=>ew (n:=64) (lo:=48) (hi:=52) (by kernel_rfl) (by kernel_rfl) (by kernel_rfl) (by omega) (by omega)) ?_
 refine PG (aA (ai l 12)) (fun α=>⟨[⟨bi A 1 48 52 c,1,((l.drop (4*12)).take 4).flatMap c8⟩],⟨by kernel_rfl,rfl,cast (by kernel_rfl) (part 12 (by omega)),trivial⟩,.inr (.inl ⟨rfl,_,_,by rw [List.length_take,List.length_drop];omega,rfl,by rw [cM l 12 (by omega)]⟩),af rfl⟩) ?_
 refine PG (bi A 1 52 56 c) (fun α=>ew (n:=64) (lo:=52) (hi:=56) (by kernel_rfl) (by kernel_rfl) (by kernel_rfl) (by omega) (by omega)) ?_
 refine PG (aA (ai l 13)) (fun α=>⟨[⟨bi A 1 52 56 c,1,((l.drop (4*13)).take 4).flatMap c8⟩],⟨by kernel_rfl,rfl,cast (by kernel_rfl) (part 13 (by omega)),trivial⟩,.inr (.inl ⟨rfl,_,_,by rw [List.length_take,List.length_drop];omega,rfl,by rw [cM l 13 (by omega)]⟩),af rfl⟩) ?_
 refine PG (bi A 1 56 60 c) (fun α=>ew (n:=64) (lo:=56) (hi:=60) (by kernel_rfl) (by kernel_rfl) (by kernel_rfl) (by omega) (by omega)) ?_
 refine PG (aA (ai l 14)) (fun α=>⟨[⟨bi A 1 56 60 c,1,((l.drop (4*14)).take 4).flatMap c8⟩],⟨by kernel_rfl,rfl,cast (by kernel_rfl) (part 14 (by omega)),trivial⟩,.inr (.inl ⟨rfl,_,_,by rw [List.length_take,List.length_drop];omega,rfl,by rw [cM l 14 (by omega)]⟩),af rfl⟩) ?_
 refine PG (bi A 1 60 64 c) (fun α=>ew (n:=64) (lo:=60) (hi:=64) (by kernel_rfl) (by kernel_rfl) (by kernel_rfl) (by omega) (by omega)) ?_
 refine PG (aA (ai l 15)) (fun α=>⟨[⟨bi A 1 60 64 c,1,((l.drop (4*15)).take 4).flatMap c8⟩],⟨by kernel_rfl,rfl,cast (by kernel_rfl) (part 15 (by omega)),trivial⟩,.inr (.inl ⟨rfl,_,_,by rw [List.length_take,List.length_drop];omega,rfl,by rw [cM l 15 (by omega)]⟩),af rfl⟩) ?_
 refine bC (fun xs=>∃ k:Nat,xs=.int .i64 ((16+k:Nat):Int)::(ak l k).map aA∧k≤48) (fun xs=>match xs with|.int _ i::_=>64-i.toNat|_=>0) (fun α=>⟨0,Eq.trans (b:=.int .i64 16::([ai l 0,ai l 1,ai l 2,ai l 3,ai l 4,ai l 5,ai l 6,ai l 7,ai l 8,ai l 9,ai l 10,ai l 11,ai l 12,ai l 13,ai l 14,ai l 15,0,0,0,0,0,0,0,0,0,0,0,0,0,0,0,0,0,0,0,0,0,0,0,0,0,0,0,0,0,0,0,0,0,0,0,0,0,0,0,0,0,0,0,0,0,0,0,0]:List ca).map aA) (by kernel_rfl) (by rfl),by omega⟩) ?_
 rintro xs-⟨k,rfl,hk⟩
 obtain⟨g,hu⟩:=FY (ak l k) (ff l k)
 have hL:=ff l k
 rw [hu]
 refine PF (.bool (decide (((16+k:Nat):Int)<64))) ?_
 refine PH (decide (((16+k:Nat):Int)<64)) (fun hlt=>?_) (fun hge=>?_)
 ·have hk2:k<48:=by simp only [decide_eq_true_eq]at hlt;omega
  refine PJ (.int .i64 ((16+k-15:Nat):Int)) (ov (a:=16+k) (b:=15) (d:=16+k-15) (by omega) (by omega)) ?_
  refine PG (.bool true) (fun α=>cZ (A:=some ⟨(α 2).b,0,none⟩) (n:=64) (c:=64) (j:=(16+k-15)) (fun _=>rfl) rfl (by kernel_rfl) (by omega)) ?_
  refine PG (aA ((ak l k).getD (16+k-15) 0)) (fun α=>gU (u:=(ak l k)) (k:=(16+k-15)) (by rw [hu];kernel_rfl) (by kernel_rfl) (by rw [hL];omega)) ?_
  refine PJ (.int .i64 ((16+k-2:Nat):Int)) (ov (a:=16+k) (b:=2) (d:=16+k-2) (by omega) (by omega)) ?_
  refine PG (.bool true) (fun α=>cZ (A:=some ⟨(α 2).b,0,none⟩) (n:=64) (c:=64) (j:=(16+k-2)) (fun _=>rfl) rfl (by kernel_rfl) (by omega)) ?_
  refine PG (aA ((ak l k).getD (16+k-2) 0)) (fun α=>gU (u:=(ak l k)) (k:=(16+k-2)) (by rw [hu];kernel_rfl) (by kernel_rfl) (by rw [hL];omega)) ?_
  refine PJ (.int .i64 ((16+k-16:Nat):Int)) (ov (a:=16+k) (b:=16) (d:=16+k-16) (by omega) (by omega)) ?_
  refine PG (.bool true) (fun α=>cZ (A:=some ⟨(α 2).b,0,none⟩) (n:=64) (c:=64) (j:=(16+k-16)) (fun _=>rfl) rfl (by kernel_rfl) (by omega)) ?_
  refine PG (aA ((ak l k).getD (16+k-16) 0)) (fun α=>gU (u:=(ak l k)) (k:=(16+k-16)) (by rw [hu];kernel_rfl) (by kernel_rfl) (by rw [hL];omega)) ?_
  refine PG (aA (aE ((ak l k).getD (16+k-15) 0) 7)) (fun α=>⟨[⟨aA ((ak l k).getD (16+k-15) 0),0,[]⟩,⟨.int .i64 7,0,[]⟩],PU,.inl ⟨rfl,((ak l k).getD (16+k-15) 0),7,by omega,by omega,rfl,rfl⟩,af rfl⟩) ?_
  refine PG (aA (aE ((ak l k).getD (16+k-15) 0) 18)) (fun α=>⟨[⟨aA ((ak l k).getD (16+k-15) 0),0,[]⟩,⟨.int .i64 18,0,[]⟩],PU,.inl ⟨rfl,((ak l k).getD (16+k-15) 0),18,by omega,by omega,rfl,rfl⟩,af rfl⟩) ?_
  refine PJ (aA ((aE ((ak l k).getD (16+k-15) 0) 7)^^^(aE ((ak l k).getD (16+k-15) 0) 18))) (fv (aE ((ak l k).getD (16+k-15) 0) 7) (aE ((ak l k).getD (16+k-15) 0) 18)) ?_
  refine PJ (aA (((ak l k).getD (16+k-15) 0)>>>3)) (rQ ((ak l k).getD (16+k-15) 0) .u64 3 (by omega)) ?_
  refine PJ (aA (((aE ((ak l k).getD (16+k-15) 0) 7)^^^(aE ((ak l k).getD (16+k-15) 0) 18))^^^(((ak l k).getD (16+k-15) 0)>>>3))) (fv ((aE ((ak l k).getD (16+k-15) 0) 7)^^^(aE ((ak l k).getD (16+k-15) 0) 18)) (((ak l k).getD (16+k-15) 0)>>>3)) ?_
  refine PJ (aA (((ak l k).getD (16+k-16) 0)+(((aE ((ak l k).getD (16+k-15) 0) 7)^^^(aE ((ak l k).getD (16+k-15) 0) 18))^^^(((ak l k).getD (16+k-15) 0)>>>3)))) (cy ((ak l k).getD (16+k-16) 0) (((aE ((ak l k).getD (16+k-15) 0) 7)^^^(aE ((ak l k).getD (16+k-15) 0) 18))^^^(((ak l k).getD (16+k-15) 0)>>>3))) ?_
  refine PJ (.int .i64 ((16+k-7:Nat):Int)) (ov (a:=16+k) (b:=7) (d:=16+k-7) (by omega) (by omega)) ?_
  refine PG (.bool true) (fun α=>cZ (A:=some ⟨(α 2).b,0,none⟩) (n:=64) (c:=64) (j:=(16+k-7)) (fun _=>rfl) rfl (by kernel_rfl) (by omega)) ?_
  refine PG (aA ((ak l k).getD (16+k-7) 0)) (fun α=>gU (u:=(ak l k)) (k:=(16+k-7)) (by rw [hu];kernel_rfl) (by kernel_rfl) (by rw [hL];omega)) ?_
  refine PJ (aA ((((ak l k).getD (16+k-16) 0)+(((aE ((ak l k).getD (16+k-15) 0) 7)^^^(aE ((ak l k).getD (16+k-15) 0) 18))^^^(((ak l k).getD (16+k-15) 0)>>>3)))+((ak l k).getD (16+k-7) 0))) (cy (((ak l k).getD (16+k-16) 0)+(((aE ((ak l k).getD (16+k-15) 0) 7)^^^(aE ((ak l k).getD (16+k-15) 0) 18))^^^(((ak l k).getD (16+k-15) 0)>>>3))) ((ak l k).getD (16+k-7) 0)) ?_
  refine PG (aA (aE ((ak l k).getD (16+k-2) 0) 17)) (fun α=>⟨[⟨aA ((ak l k).getD (16+k-2) 0),0,[]⟩,⟨.int .i64 17,0,[]⟩],PU,.inl ⟨rfl,((ak l k).getD (16+k-2) 0),17,by omega,by omega,rfl,rfl⟩,af rfl⟩) ?_
  refine PG (aA (aE ((ak l k).getD (16+k-2) 0) 19)) (fun α=>⟨[⟨aA ((ak l k).getD (16+k-2) 0),0,[]⟩,⟨.int .i64 19,0,[]⟩],PU,.inl ⟨rfl,((ak l k).getD (16+k-2) 0),19,by omega,by omega,rfl,rfl⟩,af rfl⟩) ?_
  refine PJ (aA ((aE ((ak l k).getD (16+k-2) 0) 17)^^^(aE ((ak l k).getD (16+k-2) 0) 19))) (fv (aE ((ak l k).getD (16+k-2) 0) 17) (aE ((ak l k).getD (16+k-2) 0) 19)) ?_
  refine PJ (aA (((ak l k).getD (16+k-2) 0)>>>10)) (rQ ((ak l k).getD (16+k-2) 0) .u64 10 (by omega)) ?_
  refine PJ (aA (((aE ((ak l k).getD (16+k-2) 0) 17)^^^(aE ((ak l k).getD (16+k-2) 0) 19))^^^(((ak l k).getD (16+k-2) 0)>>>10))) (fv ((aE ((ak l k).getD (16+k-2) 0) 17)^^^(aE ((ak l k).getD (16+k-2) 0) 19)) (((ak l k).getD (16+k-2) 0)>>>10)) ?_
  refine PJ (aA (((((ak l k).getD (16+k-16) 0)+(((aE ((ak l k).getD (16+k-15) 0) 7)^^^(aE ((ak l k).getD (16+k-15) 0) 18))^^^(((ak l k).getD (16+k-15) 0)>>>3)))+((ak l k).getD (16+k-7) 0))+(((aE ((ak l k).getD (16+k-2) 0) 17)^^^(aE ((ak l k).getD (16+k-2) 0) 19))^^^(((ak l k).getD (16+k-2) 0)>>>10)))) (cy ((((ak l k).getD (16+k-16) 0)+(((aE ((ak l k).getD (16+k-15) 0) 7)^^^(aE ((ak l k).getD (16+k-15) 0) 18))^^^(((ak l k).getD (16+k-15) 0)>>>3)))+((ak l k).getD (16+k-7) 0)) (((aE ((ak l k).getD (16+k-2) 0) 17)^^^(aE ((ak l k).getD (16+k-2) 0) 19))^^^(((ak l k).getD (16+k-2) 0)>>>10))) ?_
  refine PG (.bool true) (fun α=>cZ (A:=some ⟨(α 2).b,0,none⟩) (n:=64) (c:=64) (j:=(16+k)) (fun _=>rfl) rfl (by kernel_rfl) (by omega)) ?_
  refine aK (.agg (((ak l k).set (16+k) (s4 (ak l k) (16+k))).map aA).toArray) (fun α=>by rw [← DJ];exact JW (u:=(ak l k)) (k:=16+k) (y:=Ac (ak l k) (16+k)) (by rw [hu];kernel_rfl) (by kernel_rfl) (by kernel_rfl) (by rw [hL];omega)) (Mx _ (by simp [ff])) ?_
  refine PJ (.int .i64 ((16+(k+1):Nat):Int)) (Bp (a:=16+k) (b:=1) (d:=16+(k+1)) (by omega) (by omega)) ?_
  exact bg rfl (fun α=>⟨k+1,sw (v0:=.x 134 []) (m:=133) (N:=64) (by kernel_rfl) (by kernel_rfl) (by kernel_rfl) (by simp [ff]),by omega⟩) (fun α=>cast (by kernel_rfl) (show 64-(16+(k+1))<64-(16+k) by omega))
 obtain rfl:k=48:=by simp only [decide_eq_false_iff_not]at hge;omega
 refine PG (.agg (cb.flatMap y9).toArray) (fun α=>⟨[],trivial,.inr (.inr ⟨rfl,rfl,rfl⟩),af rfl⟩) ?_
 refine bC (fun xs=>∃ j:Nat,xs=.int .i64 (j:Int)::(vf (ak l 48) s j).cells∧j≤64) (fun xs=>match xs with|.int _ i::_=>64-i.toNat|_=>0) (fun α=>⟨0,by kernel_rfl,by omega⟩) ?_
 rintro xs-⟨j,rfl,hj⟩
 generalize hv:vf (ak l 48) s j=v
 refine PF (.bool (decide ((j:Int)<64))) ?_
 refine PH (decide ((j:Int)<64)) (fun hlt=>?_) (fun hge=>?_)
 ·have hj2:j<64:=by simp only [decide_eq_true_eq]at hlt;omega
  obtain⟨kn,hkn2⟩:∃ z,cb.getD j 0=z:=⟨_,rfl⟩
  refine PG (aA (aE v.e 6)) (fun α=>⟨[⟨aA v.e,0,[]⟩,⟨.int .i64 6,0,[]⟩],PU,.inl ⟨rfl,v.e,6,by omega,by omega,rfl,rfl⟩,af rfl⟩) ?_
  refine PG (aA (aE v.e 11)) (fun α=>⟨[⟨aA v.e,0,[]⟩,⟨.int .i64 11,0,[]⟩],PU,.inl ⟨rfl,v.e,11,by omega,by omega,rfl,rfl⟩,af rfl⟩) ?_
  refine PJ (aA ((aE v.e 6)^^^(aE v.e 11))) (fv (aE v.e 6) (aE v.e 11)) ?_
  refine PG (aA (aE v.e 25)) (fun α=>⟨[⟨aA v.e,0,[]⟩,⟨.int .i64 25,0,[]⟩],PU,.inl ⟨rfl,v.e,25,by omega,by omega,rfl,rfl⟩,af rfl⟩) ?_
  refine PJ (aA (((aE v.e 6)^^^(aE v.e 11))^^^(aE v.e 25))) (fv ((aE v.e 6)^^^(aE v.e 11)) (aE v.e 25)) ?_
  refine PJ (aA (v.h+(((aE v.e 6)^^^(aE v.e 11))^^^(aE v.e 25)))) (cy v.h (((aE v.e 6)^^^(aE v.e 11))^^^(aE v.e 25))) ?_
  refine PJ (aA (v.e&&&v.f)) (oY v.e v.f) ?_
  refine PJ (aA (~~~v.e)) (Nv v.e) ?_
  refine PJ (aA ((~~~v.e)&&&v.g)) (oY (~~~v.e) v.g) ?_
  refine PJ (aA ((v.e&&&v.f)^^^((~~~v.e)&&&v.g))) (fv (v.e&&&v.f) ((~~~v.e)&&&v.g)) ?_
  refine PJ (aA ((v.h+(((aE v.e 6)^^^(aE v.e 11))^^^(aE v.e 25)))+((v.e&&&v.f)^^^((~~~v.e)&&&v.g)))) (cy (v.h+(((aE v.e 6)^^^(aE v.e 11))^^^(aE v.e 25))) ((v.e&&&v.f)^^^((~~~v.e)&&&v.g))) ?_
  refine PG (.bool true) (fun α=>cZ (A:=some ⟨(α 68).b,0,none⟩) (n:=64) (c:=64) (j:=j) (fun _=>rfl) rfl (by kernel_rfl) (by omega)) ?_
  refine PG (aA kn) (fun α=>by rw [← hkn2];exact gU (u:=cb) (k:=j) (by kernel_rfl) (by kernel_rfl) hj2) ?_
  refine PJ (aA (((v.h+(((aE v.e 6)^^^(aE v.e 11))^^^(aE v.e 25)))+((v.e&&&v.f)^^^((~~~v.e)&&&v.g)))+kn)) (cy ((v.h+(((aE v.e 6)^^^(aE v.e 11))^^^(aE v.e 25)))+((v.e&&&v.f)^^^((~~~v.e)&&&v.g))) kn) ?_
  refine PG (.bool true) (fun α=>cZ (A:=some ⟨(α 2).b,0,none⟩) (n:=64) (c:=64) (j:=j) (fun _=>rfl) rfl (by kernel_rfl) (by omega)) ?_
  refine PG (aA ((ak l 48).getD j 0)) (fun α=>gU (u:=(ak l 48)) (k:=j) (by rw [hu];kernel_rfl) (by kernel_rfl) (by rw [hL];omega)) ?_
  refine PJ (aA ((((v.h+(((aE v.e 6)^^^(aE v.e 11))^^^(aE v.e 25)))+((v.e&&&v.f)^^^((~~~v.e)&&&v.g)))+kn)+((ak l 48).getD j 0))) (cy (((v.h+(((aE v.e 6)^^^(aE v.e 11))^^^(aE v.e 25)))+((v.e&&&v.f)^^^((~~~v.e)&&&v.g)))+kn) ((ak l 48).getD j 0)) ?_
  refine PG (aA (aE v.a 2)) (fun α=>⟨[⟨aA v.a,0,[]⟩,⟨.int .i64 2,0,[]⟩],PU,.inl ⟨rfl,v.a,2,by omega,by omega,rfl,rfl⟩,af rfl⟩) ?_
  refine PG (aA (aE v.a 13)) (fun α=>⟨[⟨aA v.a,0,[]⟩,⟨.int .i64 13,0,[]⟩],PU,.inl ⟨rfl,v.a,13,by omega,by omega,rfl,rfl⟩,af rfl⟩) ?_
  refine PJ (aA ((aE v.a 2)^^^(aE v.a 13))) (fv (aE v.a 2) (aE v.a 13)) ?_
  refine PG (aA (aE v.a 22)) (fun α=>⟨[⟨aA v.a,0,[]⟩,⟨.int .i64 22,0,[]⟩],PU,.inl ⟨rfl,v.a,22,by omega,by omega,rfl,rfl⟩,af rfl⟩) ?_
  refine PJ (aA (((aE v.a 2)^^^(aE v.a 13))^^^(aE v.a 22))) (fv ((aE v.a 2)^^^(aE v.a 13)) (aE v.a 22)) ?_
  refine PJ (aA (v.a&&&v.b)) (oY v.a v.b) ?_
  refine PJ (aA (v.a&&&v.c)) (oY v.a v.c) ?_
  refine PJ (aA ((v.a&&&v.b)^^^(v.a&&&v.c))) (fv (v.a&&&v.b) (v.a&&&v.c)) ?_
  refine PJ (aA (v.b&&&v.c)) (oY v.b v.c) ?_
  refine PJ (aA (((v.a&&&v.b)^^^(v.a&&&v.c))^^^(v.b&&&v.c))) (fv ((v.a&&&v.b)^^^(v.a&&&v.c)) (v.b&&&v.c)) ?_
  refine PJ (aA ((((aE v.a 2)^^^(aE v.a 13))^^^(aE v.a 22))+(((v.a&&&v.b)^^^(v.a&&&v.c))^^^(v.b&&&v.c)))) (cy (((aE v.a 2)^^^(aE v.a 13))^^^(aE v.a 22)) (((v.a&&&v.b)^^^(v.a&&&v.c))^^^(v.b&&&v.c))) ?_
  refine PJ (aA (v.d+((((v.h+(((aE v.e 6)^^^(aE v.e 11))^^^(aE v.e 25)))+((v.e&&&v.f)^^^((~~~v.e)&&&v.g)))+kn)+((ak l 48).getD j 0)))) (cy v.d ((((v.h+(((aE v.e 6)^^^(aE v.e 11))^^^(aE v.e 25)))+((v.e&&&v.f)^^^((~~~v.e)&&&v.g)))+kn)+((ak l 48).getD j 0))) ?_
  refine PJ (aA (((((v.h+(((aE v.e 6)^^^(aE v.e 11))^^^(aE v.e 25)))+((v.e&&&v.f)^^^((~~~v.e)&&&v.g)))+kn)+((ak l 48).getD j 0))+((((aE v.a 2)^^^(aE v.a 13))^^^(aE v.a 22))+(((v.a&&&v.b)^^^(v.a&&&v.c))^^^(v.b&&&v.c))))) (cy ((((v.h+(((aE v.e 6)^^^(aE v.e 11))^^^(aE v.e 25)))+((v.e&&&v.f)^^^((~~~v.e)&&&v.g)))+kn)+((ak l 48).getD j 0)) ((((aE v.a 2)^^^(aE v.a 13))^^^(aE v.a 22))+(((v.a&&&v.b)^^^(v.a&&&v.c))^^^(v.b&&&v.c)))) ?_
  refine PJ (.int .i64 ((j+1:Nat):Int)) (Bp (a:=j) (b:=1) (d:=j+1) rfl (by omega)) ?_
  exact bg rfl (fun α=>⟨j+1,Eq.trans (b:=.int .i64 ((j+1:Nat):Int)::(S8.cells ⟨v.rp kn ((ak l 48).getD j 0)+v.rq,v.a,v.b,v.c,v.d+v.rp kn ((ak l 48).getD j 0),v.e,v.f,v.g⟩)) (by kernel_rfl) (by rw [← Jl,th hv hkn2]),by omega⟩) (fun α=>cast (by kernel_rfl) (show 64-(j+1)<64-j by omega))
 obtain rfl:j=64:=by simp only [decide_eq_false_iff_not]at hge;omega
 refine PJ (aA (s.a+v.a)) (cy s.a v.a) ?_
 refine PJ (aA (s.b+v.b)) (cy s.b v.b) ?_
 refine PJ (aA (s.c+v.c)) (cy s.c v.c) ?_
 refine PJ (aA (s.d+v.d)) (cy s.d v.d) ?_
 refine PJ (aA (s.e+v.e)) (cy s.e v.e) ?_
 refine PJ (aA (s.f+v.f)) (cy s.f v.f) ?_
 refine PJ (aA (s.g+v.g)) (cy s.g v.g) ?_
 refine PJ (aA (s.h+v.h)) (cy s.h v.h) ?_
 exact PI (.agg (S8.cells ⟨s.a+v.a,s.b+v.b,s.c+v.c,s.d+v.d,s.e+v.e,s.f+v.f,s.g+v.g,s.h+v.h⟩).toArray) (by rw [pH hv])
noncomputable def NX(K A:PZ):SX.Cx:={ P:=Tryz.prog,R:=fun _ f xs v=>False,shp:=fun f=>none,K:=K,A:=A,arr:=true,trm:=true }
theorem Kk(K A:PZ):(NX K A).Ok:=SX.Cx.bP (fun _=>rfl) fun _ f xs v W h=>h.elim
def sA:List SX.V:=[.x 0 []]
def oa:SX.Tree :=
(.df (.dR 1 1 (.ext 1)) [(.cat []),(.q 0)] .any
(.df (.dR 1 1 (.own 1 [(.k (.int .u8 128))])) [(.cat [(.q 1)]),(.sl 2 0 1 1)] .any
(.loop [(.cat [(.q 1),(.q 2)])] [.any]
(.df (.rlen 1) [(.cat [(.q 3)])] .one
(.df (.bin .rem 3) [(.q 4),(.i 64)] .one
(.df (.bin .neq 3) [(.q 5),(.i 56)] .one
(.br 6 []
(.df (.dR 1 1 (.own 1 [(.k (.int .u8 0))])) [(.cat [(.q 3)]),(.sl 5 0 1 1)] .any
(.again 0 [(.cat [(.q 3),(.q 7)])]))
(.df (.len false) [(.q 0)] .one
(.df (.conv .u64) [(.q 7)] .one
(.df (.bin .mul 140) [(.q 8),(.k (.int .u64 8))] .one
(.df (.bin .shr 140) [(.q 9),(.i 56)] .one
(.df (.conv .u8) [(.q 10)] .one
(.df (.dR 1 1 (.own 1 [(.q 11)])) [(.cat [(.q 3)]),(.sl 5 0 1 1)] .any
(.df (.bin .shr 140) [(.q 9),(.i 48)] .one
(.df (.conv .u8) [(.q 13)] .one
(.df (.dR 1 1 (.own 1 [(.q 14)])) [(.cat [(.q 3),(.q 12)]),(.sl 7 0 1 1)] .any
(.df (.bin .shr 140) [(.q 9),(.i 40)] .one
(.df (.conv .u8) [(.q 16)] .one
(.df (.dR 1 1 (.own 1 [(.q 17)])) [(.cat [(.q 3),(.q 12),(.q 15)]),(.sl 9 0 1 1)] .any
(.df (.bin .shr 140) [(.q 9),(.i 32)] .one
(.df (.conv .u8) [(.q 19)] .one
(.df (.dR 1 1 (.own 1 [(.q 20)])) [(.cat [(.q 3),(.q 12),(.q 15),(.q 18)]),(.sl 11 0 1 1)] .any
(.df (.bin .shr 140) [(.q 9),(.i 24)] .one
(.df (.conv .u8) [(.q 22)] .one
(.df (.dR 1 1 (.own 1 [(.q 23)])) [(.cat [(.q 3),(.q 12),(.q 15),(.q 18),(.q 21)]),(.sl 13 0 1 1)] .any
(.df (.bin .shr 140) [(.q 9),(.i 16)] .one
(.df (.conv .u8) [(.q 25)] .one
(.df (.dR 1 1 (.own 1 [(.q 26)])) [(.cat [(.q 3),(.q 12),(.q 15),(.q 18),(.q 21),(.q 24)]),(.sl 15 0 1 1)] .any
(.df (.bin .shr 140) [(.q 9),(.i 8)] .one
(.df (.conv .u8) [(.q 28)] .one
(.df (.dR 1 1 (.own 1 [(.q 29)])) [(.cat [(.q 3),(.q 12),(.q 15),(.q 18),(.q 21),(.q 24),(.q 27)]),(.sl 17 0 1 1)] .any
(.df (.bin .shr 140) [(.q 9),(.i 0)] .one
(.df (.conv .u8) [(.q 31)] .one
(.df (.dR 1 1 (.own 1 [(.q 32)])) [(.cat [(.q 3),(.q 12),(.q 15),(.q 18),(.q 21),(.q 24),(.q 27),(.q 30)]),(.sl 19 0 1 1)] .any
(.ret (.row 20) (List.replicate 20 none++[(some ⟨[(.q 3),(.q 12),(.q 15),(.q 18),(.q 21),(.q 24),(.q 27),(.q 30),(.q 33)],5,(.row 1)⟩)]) [])))))))))))))))))))))))))))))))))))
theorem G8(K A:PZ):PY (NX K A) ⟨fun _=>false,[⟨117,2,[(.s 3,.row 1 5)]⟩],2,100⟩ 117 Tryz.f117 sA [.any]=oa:=by kernel_rfl
theorem I7(a b:Nat):aR .neq (.int .i64 (a:Int)) (.int .i64 (b:Int))=some (.bool (decide (a≠b))):=by
 simp only [aR,mm,if_true]
 congr 2
 by_cases h:a=b
 ·subst h;simp
 have:(a:Int)≠(b:Int):=by omega
 simp [h,this]
theorem GN(l:List W8)(hl:l.length<2 ^ 45)(A:Option Addr)(n c:Nat)(w:World)(hr:Rd w 1 A n (l.flatMap c8))(hc:n≤c):RS 117 #[.slice A n c] w 1 ((o7 l).flatMap c8):=by
 have hln:l.length=n:=by have:=hr.1;rw [SX.aB aF]at this;omega
 refine b7 (C:=NX (fun v z xs=>v=.slice A n c∧z=1∧xs=l.flatMap c8) P0) (G:=⟨fun _=>false,[⟨117,2,[(.s 3,.row 1 5)]⟩],2,100⟩) (args:=sA) (sh:=[.any]) (ρ:=[.slice A n c]) 100000 oa (Kk _ _) Tryz.func117 rfl (cast (by kernel_rfl) (G8 (fun v z xs=>v=.slice A n c∧z=1∧xs=l.flatMap c8) P0)) (by kernel_rfl) (by kernel_rfl) (by kernel_rfl) (fun W hW v z xs ⟨h1,h2,h3⟩=>by subst h1;subst h2;subst h3;exact⟨hr.aD hW,hc⟩) ?_
 have one:∀ a,∀ u∈c8 a,u.oneCell'=true:=fun a u hu=>by
  obtain rfl:u=w8 a:=by simpa [c8]using hu
  rfl
 have hpad:km n<64:=by unfold km;omega
 have hpad2:(n+1+km n) % 64=56:=by unfold km;omega
 unfold oa
 refine PG (.agg (l.flatMap c8).toArray) (fun α=>av aF one (by omega) (l1:=[]) (l2:=l) (by kernel_rfl) (nc ⟨rfl,rfl,rfl⟩) (by simp;omega) (by simp;omega)) ?_
 refine PG (.agg ([128].flatMap c8).toArray) (fun α=>av aF one (by omega) (l1:=l) (l2:=[128]) (bq (by kernel_rfl)) (aG (by kernel_rfl)) (by simp;omega) (by simp;omega)) ?_
 refine bC (fun xs=>∃ k:Nat,xs=[.agg ((l++[128]++List.replicate k 0).flatMap c8).toArray]∧k≤km n) (fun xs=>match xs with|.agg cs::_=>n+1+km n-cs.toList.length|_=>0) (fun α=>⟨0,Eq.trans (b:=[.agg (l.flatMap c8++([128].flatMap c8++[])).toArray]) (by kernel_rfl) (by rw [List.append_nil,List.replicate_zero,List.append_nil,List.flatMap_append]),by omega⟩) ?_
 rintro xs-⟨k,rfl,hk⟩
 obtain⟨r,hr0⟩:∃ r,r=l++[128]++List.replicate k 0:=⟨_,rfl⟩
 have hrl:r.length=n+1+k:=by rw [hr0];simp;omega
 rw [← hr0]
 refine PG (.int .i64 (r.length:Int)) (fun α=>kB (bq (j:=3) (by kernel_rfl))) ?_
 refine PJ (.int .i64 ((r.length % 64:Nat):Int)) (u9 (a:=r.length) (b:=64) (by omega)) ?_
 refine PJ (.bool (decide (r.length % 64≠56))) (I7 (r.length % 64) 56) ?_
 refine PH (decide (r.length % 64≠56)) (fun h56=>?_) (fun h56=>?_)
 ·have h56:r.length % 64≠56:=by simpa using h56
  have hk2:k<km n:=by
   rcases Nat.lt_or_ge k (km n)with h|h;· exact h
   exfalso;apply h56;rw [hrl,show k=km n by omega];exact hpad2
  refine PG (.agg ([0].flatMap c8).toArray) (fun α=>av aF one (by omega) (l1:=r) (l2:=[0]) (bq (by kernel_rfl)) (aG (by kernel_rfl)) (by simp;omega) (by simp;omega)) ?_
  exact bg rfl (fun α=>⟨k+1,Eq.trans (b:=[.agg (r.flatMap c8++([0].flatMap c8++[])).toArray]) (by kernel_rfl) (by rw [List.append_nil,← List.flatMap_append,hr0,List.append_assoc _ _ [0],← List.replicate_succ']),by omega⟩) (fun α=>cast (by kernel_rfl) (show n+1+km n-(r.flatMap c8++([0].flatMap c8++[])).length<n+1+km n-(r.flatMap c8).length by rw [List.append_nil,List.length_append,SX.aB aF,SX.aB aF];simp only [LL];omega))
 have h56:r.length % 64=56:=by simpa using h56
 have hk2:k=km n:=by omega
 refine PF (.int .i64 (n:Int)) ?_
 refine PJ (.int .u64 (n:Int)) (vz n .i64 (by omega)) ?_
 refine PJ (.int .u64 ((8*n:Nat):Int)) (AM n (by omega)) ?_
 refine P8 (8*n) 56 ?_
 refine PG (.agg ([ao (8*n) 56].flatMap c8).toArray) (fun α=>av aF one (by omega) (l1:=r) (l2:=[ao (8*n) 56]) (bq (j:=3) (by kernel_rfl)) (aG (by kernel_rfl)) (by simp;omega) (by simp;omega)) ?_
 refine P8 (8*n) 48 ?_
 refine PG (.agg ([ao (8*n) 48].flatMap c8).toArray) (fun α=>av aF one (by omega) (l1:=(r++[ao (8*n) 56])) (l2:=[ao (8*n) 48]) (Eq.trans (b:=r.flatMap c8++[ao (8*n) 56].flatMap c8) (by kernel_rfl) (by rw [← List.flatMap_append])) (aG (by kernel_rfl)) (by simp;omega) (by simp;omega)) ?_
 refine P8 (8*n) 40 ?_
 refine PG (.agg ([ao (8*n) 40].flatMap c8).toArray) (fun α=>av aF one (by omega) (l1:=(r++[ao (8*n) 56,ao (8*n) 48])) (l2:=[ao (8*n) 40]) (Eq.trans (b:=r.flatMap c8++[ao (8*n) 56,ao (8*n) 48].flatMap c8) (by kernel_rfl) (by rw [← List.flatMap_append])) (aG (by kernel_rfl)) (by simp;omega) (by simp;omega)) ?_
 refine P8 (8*n) 32 ?_
 refine PG (.agg ([ao (8*n) 32].flatMap c8).toArray) (fun α=>av aF one (by omega) (l1:=(r++[ao (8*n) 56,ao (8*n) 48,ao (8*n) 40])) (l2:=[ao (8*n) 32]) (Eq.trans (b:=r.flatMap c8++[ao (8*n) 56,ao (8*n) 48,ao (8*n) 40].flatMap c8) (by kernel_rfl) (by rw [← List.flatMap_append])) (aG (by kernel_rfl)) (by simp;omega) (by simp;omega)) ?_
 refine P8 (8*n) 24 ?_
 refine PG (.agg ([ao (8*n) 24].flatMap c8).toArray) (fun α=>av aF one (by omega) (l1:=(r++[ao (8*n) 56,ao (8*n) 48,ao (8*n) 40,ao (8*n) 32])) (l2:=[ao (8*n) 24]) (Eq.trans (b:=r.flatMap c8++[ao (8*n) 56,ao (8*n) 48,ao (8*n) 40,ao (8*n) 32].flatMap c8) (by kernel_rfl) (by rw [← List.flatMap_append])) (aG (by kernel_rfl)) (by simp;omega) (by simp;omega)) ?_
 refine P8 (8*n) 16 ?_
 refine PG (.agg ([ao (8*n) 16].flatMap c8).toArray) (fun α=>av aF one (by omega) (l1:=(r++[ao (8*n) 56,ao (8*n) 48,ao (8*n) 40,ao (8*n) 32,ao (8*n) 24])) (l2:=[ao (8*n) 16]) (Eq.trans (b:=r.flatMap c8++[ao (8*n) 56,ao (8*n) 48,ao (8*n) 40,ao (8*n) 32,ao (8*n) 24].flatMap c8) (by kernel_rfl) (by rw [← List.flatMap_append])) (aG (by kernel_rfl)) (by simp;omega) (by simp;omega)) ?_
 refine P8 (8*n) 8 ?_
 refine PG (.agg ([ao (8*n) 8].flatMap c8).toArray) (fun α=>av aF one (by omega) (l1:=(r++[ao (8*n) 56,ao (8*n) 48,ao (8*n) 40,ao (8*n) 32,ao (8*n) 24,ao (8*n) 16])) (l2:=[ao (8*n) 8]) (Eq.trans (b:=r.flatMap c8++[ao (8*n) 56,ao (8*n) 48,ao (8*n) 40,ao (8*n) 32,ao (8*n) 24,ao (8*n) 16].flatMap c8) (by kernel_rfl) (by rw [← List.flatMap_append])) (aG (by kernel_rfl)) (by simp;omega) (by simp;omega)) ?_
 refine P8 (8*n) 0 ?_
 refine PG (.agg ([ao (8*n) 0].flatMap c8).toArray) (fun α=>av aF one (by omega) (l1:=(r++[ao (8*n) 56,ao (8*n) 48,ao (8*n) 40,ao (8*n) 32,ao (8*n) 24,ao (8*n) 16,ao (8*n) 8])) (l2:=[ao (8*n) 0]) (Eq.trans (b:=r.flatMap c8++[ao (8*n) 56,ao (8*n) 48,ao (8*n) 40,ao (8*n) 32,ao (8*n) 24,ao (8*n) 16,ao (8*n) 8].flatMap c8) (by kernel_rfl) (by rw [← List.flatMap_append])) (aG (by kernel_rfl)) (by simp;omega) (by simp;omega)) ?_
 have hfin:o7 l=r++lR (8*n):=by unfold o7;rw [hln,hr0,hk2]
 exact aY fun α W _ hrow hS=>⟨hS.below,_,rfl,az.row hS (n:=20) rfl rfl (hrow 20 _ rfl) (Eq.trans (b:=r.flatMap c8++(lR (8*n)).flatMap c8) (by kernel_rfl) (by rw [hfin,List.flatMap_append]))⟩
def LH(f:FuncId)(xs:List SX.Arg)(v:Value):Prop:=f=117∧∃ (u:Value) (l:List W8),l.length<2 ^ 45∧xs=[⟨u,1,l.flatMap c8⟩]∧v=.agg ((o7 l).flatMap c8).toArray
def Ib(f:FuncId)(xs:List SX.Arg)(v:Value):Prop:=f=118∧∃ (s:S8) (u:Value) (l:List W8),l.length=64∧xs=[⟨.agg s.cells.toArray,0,[]⟩,⟨u,1,l.flatMap c8⟩]∧v=.agg (bD s l).cells.toArray
noncomputable def NZ(K A:PZ):SX.Cx:={ P:=Tryz.prog,R:=fun _ f xs v=>LH f xs v∨Ib f xs v,shp:=fun f=>if f=117 then some (.sl 1)else if f=118 then some (.ag 8)else none,K:=K,A:=A,arr:=true,trm:=true }
theorem Kr(K A:PZ):(NZ K A).Ok:=SX.Cx.bP (fun _=>rfl) fun _ f xs v W h hrd hK=>by
 rcases h with ⟨rfl,u,l,hl,rfl,rfl⟩|⟨rfl,s,u,l,hl,rfl,rfl⟩
 ·obtain⟨A,n,c,rfl,hr,hc,hn⟩:=cI (hrd ⟨u,1,l.flatMap c8⟩ (List.mem_singleton_self _))
  exact(GN l hl A n c W hr hc).mono fun e w' h=>az.uS rfl h
 obtain⟨A,n,c,rfl,hr,hc,hn⟩:=cI (hrd ⟨u,1,l.flatMap c8⟩ (List.mem_cons_of_mem _ (List.mem_singleton_self _)))
 exact(zW s l hl A n c W hr hc).mono fun e w' h=>al rfl h
def sC:List SX.V:=[.x 0 []]
def oc:SX.Tree :=
(.df (.call 117 [(.ext 1)]) [(.q 0)] (.sl 1)
(.loop [(.i 0),(.k (.int .u32 1779033703)),(.k (.int .u32 3144134277)),(.k (.int .u32 1013904242)),(.k (.int .u32 2773480762)),(.k (.int .u32 1359893119)),(.k (.int .u32 2600822924)),(.k (.int .u32 528734635)),(.k (.int .u32 1541459225))] (PP 9 .one)
(.df (.rlen 1) [(.cat [(.q 1)])] .one
(.df (.bin .lss 3) [(.q 2),(.q 11)] .one
(.br 12 []
(.df (.bin .add 3) [(.q 2),(.i 64)] .one
(.df (.slcx 1 true true) [(.cat [(.q 1)]),(.q 2),(.q 13)] .any
(.df (.call 118 [.no,(.row 1 [(.q 14)])]) [(.a (PO 3 8)),(.row 17)] (.ag 8)
(.df (.bin .add 3) [(.q 2),(.i 64)] .one
(.again 0 ([(.q 16)]++PN 15 0 8))))))
(.df (.bin .shr 136) [(.q 3),(.i 24)] .one
(.df (.conv .u8) [(.q 13)] .one
(.df (.bin .shr 136) [(.q 3),(.i 16)] .one
(.df (.conv .u8) [(.q 15)] .one
(.df (.bin .shr 136) [(.q 3),(.i 8)] .one
(.df (.conv .u8) [(.q 17)] .one
(.df (.bin .shr 136) [(.q 3),(.i 0)] .one
(.df (.conv .u8) [(.q 19)] .one
(.df (.bin .shr 136) [(.q 4),(.i 24)] .one
(.df (.conv .u8) [(.q 21)] .one
(.df (.bin .shr 136) [(.q 4),(.i 16)] .one
(.df (.conv .u8) [(.q 23)] .one
(.df (.bin .shr 136) [(.q 4),(.i 8)] .one
(.df (.conv .u8) [(.q 25)] .one
(.df (.bin .shr 136) [(.q 4),(.i 0)] .one
(.df (.conv .u8) [(.q 27)] .one
(.df (.bin .shr 136) [(.q 5),(.i 24)] .one
(.df (.conv .u8) [(.q 29)] .one
(.df (.bin .shr 136) [(.q 5),(.i 16)] .one
(.df (.conv .u8) [(.q 31)] .one
(.df (.bin .shr 136) [(.q 5),(.i 8)] .one
(.df (.conv .u8) [(.q 33)] .one
(.df (.bin .shr 136) [(.q 5),(.i 0)] .one
(.df (.conv .u8) [(.q 35)] .one
(.df (.bin .shr 136) [(.q 6),(.i 24)] .one
(.df (.conv .u8) [(.q 37)] .one
(.df (.bin .shr 136) [(.q 6),(.i 16)] .one
(.df (.conv .u8) [(.q 39)] .one
(.df (.bin .shr 136) [(.q 6),(.i 8)] .one
(.df (.conv .u8) [(.q 41)] .one
(.df (.bin .shr 136) [(.q 6),(.i 0)] .one
(.df (.conv .u8) [(.q 43)] .one
(.df (.bin .shr 136) [(.q 7),(.i 24)] .one
(.df (.conv .u8) [(.q 45)] .one
(.df (.bin .shr 136) [(.q 7),(.i 16)] .one
(.df (.conv .u8) [(.q 47)] .one
(.df (.bin .shr 136) [(.q 7),(.i 8)] .one
(.df (.conv .u8) [(.q 49)] .one
(.df (.bin .shr 136) [(.q 7),(.i 0)] .one
(.df (.conv .u8) [(.q 51)] .one
(.df (.bin .shr 136) [(.q 8),(.i 24)] .one
(.df (.conv .u8) [(.q 53)] .one
(.df (.bin .shr 136) [(.q 8),(.i 16)] .one
(.df (.conv .u8) [(.q 55)] .one
(.df (.bin .shr 136) [(.q 8),(.i 8)] .one
(.df (.conv .u8) [(.q 57)] .one
(.df (.bin .shr 136) [(.q 8),(.i 0)] .one
(.df (.conv .u8) [(.q 59)] .one
(.df (.bin .shr 136) [(.q 9),(.i 24)] .one
(.df (.conv .u8) [(.q 61)] .one
(.df (.bin .shr 136) [(.q 9),(.i 16)] .one
(.df (.conv .u8) [(.q 63)] .one
(.df (.bin .shr 136) [(.q 9),(.i 8)] .one
(.df (.conv .u8) [(.q 65)] .one
(.df (.bin .shr 136) [(.q 9),(.i 0)] .one
(.df (.conv .u8) [(.q 67)] .one
(.df (.bin .shr 136) [(.q 10),(.i 24)] .one
(.df (.conv .u8) [(.q 69)] .one
(.df (.bin .shr 136) [(.q 10),(.i 16)] .one
(.df (.conv .u8) [(.q 71)] .one
(.df (.bin .shr 136) [(.q 10),(.i 8)] .one
(.df (.conv .u8) [(.q 73)] .one
(.df (.bin .shr 136) [(.q 10),(.i 0)] .one
(.df (.conv .u8) [(.q 75)] .one
(.ret (.a [(.q 14),(.q 16),(.q 18),(.q 20),(.q 22),(.q 24),(.q 26),(.q 28),(.q 30),(.q 32),(.q 34),(.q 36),(.q 38),(.q 40),(.q 42),(.q 44),(.q 46),(.q 48),(.q 50),(.q 52),(.q 54),(.q 56),(.q 58),(.q 60),(.q 62),(.q 64),(.q 66),(.q 68),(.q 70),(.q 72),(.q 74),(.q 76)]) [] []))))))))))))))))))))))))))))))))))))))))))))))))))))))))))))))))))))))
theorem Ha(K A:PZ):PY (NZ K A) ⟨fun _=>false,[⟨88,4,([(.s 5,.one)]++(List.range 8).map fun j=>(.c 9 j,.one))⟩,⟨88,4,([(.s 5,.one)]++(List.range 8).map fun j=>(.c 8 j,.one))⟩,⟨88,4,([(.s 5,.one)]++(List.range 8).map fun j=>(.c 7 j,.one))⟩,⟨88,4,([(.s 5,.one)]++(List.range 8).map fun j=>(.c 6 j,.one))⟩,⟨88,4,([(.s 5,.one)]++(List.range 8).map fun j=>(.c 5 j,.one))⟩,⟨88,4,([(.s 5,.one)]++(List.range 8).map fun j=>(.c 4 j,.one))⟩,⟨88,4,([(.s 5,.one)]++(List.range 8).map fun j=>(.c 3 j,.one))⟩,⟨88,4,([(.s 5,.one)]++(List.range 8).map fun j=>(.c 2 j,.one))⟩,⟨88,4,([(.s 5,.one)]++(List.range 8).map fun j=>(.c 1 j,.one))⟩],0,100⟩ 88 Tryz.f88 sC [.any]=oc:=by kernel_rfl
theorem Hw{C:SX.Cx}{ρ:List Value}{α:Nat→SX.AV}{c i i':SX.V}{l:List W8}{lo hi:Nat}(hc:aa (c.den ρ α)=l.flatMap c8)(h1:i.den ρ α=.int .i64 (lo:Int))(h2:i'.den ρ α=.int .i64 (hi:Int))(hl:lo≤hi)(hh:hi≤l.length):cO.rel C ρ α (.slcx 1 true true) [c,i,i'] (.agg (((l.drop lo).take (hi-lo)).flatMap c8).toArray):=by
 refine⟨lo,hi,l.length,some (.int .i64 (lo:Int)),some (.int .i64 (hi:Int)),?_,?_,?_⟩
 ·simp [ab,h1,h2,iZ]
 ·rw [hc,SX.aB aF]
  simp only [bU,Nat.mul_one,Nat.div_one,Option.bind_some,ik]
  rw [if_pos (by omega)]
  simp only [Option.bind_some,Int.toNat_natCast]
  rw [if_pos (by omega)]
  rfl
 rw [hc,← iS aF,← fE aF]
theorem KI(l:List W8):(SX.Sh.sl 1).fit (.agg (l.flatMap c8).toArray)=true:=by
 simp only [SX.Sh.fit,Nat.mod_one,beq_self_eq_true,Bool.and_true,Bool.and_eq_true,List.all_eq_true]
 exact⟨by decide,za l⟩
theorem HU(x:ca)(k:Nat):fb .u8 (aA (x>>>k))=some (w8 (ao x.toNat k)):=by
 have:=tU (x>>>k).toNat .u32
 rw [BitVec.toNat_ushiftRight,Nat.shiftRight_eq_div_pow]at this
 unfold aA
 rw [BitVec.toNat_ushiftRight,Nat.shiftRight_eq_div_pow]
 exact this
theorem P4{C:SX.Cx}{w0:eT}{ps:List (World→Prop)}{T0:List SX.TF}{R:Ending→World→Prop}{L:List (SX.Cx→List Value→Prop)}{ρ:List Value}{q1 q2:cO}{a1 a2:List SX.V}{s1 s2:SX.Sh}{t:SX.Tree}(x:ca)(k:Nat)(kk:SX.VC C w0 ps T0 R L ((ρ++[aA (x>>>k)])++[w8 (ao x.toNat k)]) t)(h:k<32:=by decide) (e1:∀ α,(aR .shr (aA x) (.int .i64 (k:Int))=some (aA (x>>>k)))=q1.rel C ρ α a1 (aA (x>>>k)):=by intro α;kernel_rfl) (e2:∀ α,(fb .u8 (aA (x>>>k))=some (w8 (ao x.toNat k)))=q2.rel C (ρ++[aA (x>>>k)]) α a2 (w8 (ao x.toNat k)):=by intro α;kernel_rfl) (f1:s1.fit (aA (x>>>k))=true:=by kernel_rfl) (f2:s2.fit (w8 (ao x.toNat k))=true:=by kernel_rfl):SX.VC C w0 ps T0 R L ρ (.df q1 a1 s1 (.df q2 a2 s2 t)):=aK _ (fun α=>cast (e1 α) (rQ x .i64 k (by omega))) f1 (aK _ (fun α=>cast (e2 α) (HU x k)) f2 kk)
theorem xV(l:List W8)(hl:l.length<2 ^ 45)(A:Option Addr)(n c:Nat)(w:World)(hr:Rd w 1 A n (l.flatMap c8))(hc:n≤c):RT 88 #[.slice A n c] w (.agg ((dl l).flatMap c8).toArray):=by
 refine b7 (C:=NZ (fun v z xs=>v=.slice A n c∧z=1∧xs=l.flatMap c8) P0) (G:=⟨fun _=>false,[⟨88,4,([(.s 5,.one)]++(List.range 8).map fun j=>(.c 9 j,.one))⟩,⟨88,4,([(.s 5,.one)]++(List.range 8).map fun j=>(.c 8 j,.one))⟩,⟨88,4,([(.s 5,.one)]++(List.range 8).map fun j=>(.c 7 j,.one))⟩,⟨88,4,([(.s 5,.one)]++(List.range 8).map fun j=>(.c 6 j,.one))⟩,⟨88,4,([(.s 5,.one)]++(List.range 8).map fun j=>(.c 5 j,.one))⟩,⟨88,4,([(.s 5,.one)]++(List.range 8).map fun j=>(.c 4 j,.one))⟩,⟨88,4,([(.s 5,.one)]++(List.range 8).map fun j=>(.c 3 j,.one))⟩,⟨88,4,([(.s 5,.one)]++(List.range 8).map fun j=>(.c 2 j,.one))⟩,⟨88,4,([(.s 5,.one)]++(List.range 8).map fun j=>(.c 1 j,.one))⟩],0,100⟩) (args:=sC) (sh:=[.any]) (ρ:=[.slice A n c]) 100000 oc (Kr _ _) Tryz.func88 rfl (cast (by kernel_rfl) (Ha (fun v z xs=>v=.slice A n c∧z=1∧xs=l.flatMap c8) P0)) (by kernel_rfl) (by kernel_rfl) (by kernel_rfl) (fun W hW v z xs ⟨h1,h2,h3⟩=>by subst h1;subst h2;subst h3;exact⟨hr.aD hW,hc⟩) ?_
 have hsum:=Jy l
 have hp64:=Gf l
 have hpl:(o7 l).length<2 ^ 46:=by unfold o7 km;simp only [List.length_append,List.length_replicate,List.length_cons,List.length_nil,show(lR (8*l.length)).length=8 from rfl];omega
 unfold oc
 refine aK (.agg ((o7 l).flatMap c8).toArray) (fun α=>⟨[⟨.slice A n c,1,l.flatMap c8⟩],⟨rfl,rfl,⟨rfl,rfl,rfl⟩,trivial⟩,.inl ⟨rfl,_,l,hl,rfl,rfl⟩,af rfl⟩) (KI _) ?_
 generalize hP:o7 l=P at hsum hp64 hpl
 refine bC (fun xs=>∃ (k:Nat) (s:S8),xs=.int .i64 ((64*k:Nat):Int)::s.cells∧64*k≤P.length∧(cv s (P.drop (64*k))).1=(cv cF P).1) (fun xs=>match xs with|.int _ i::_=>P.length-i.toNat|_=>0) (fun α=>⟨0,cF,by kernel_rfl,by omega,rfl⟩) ?_
 rintro xs-⟨k,s,rfl,hk,hI⟩
 refine PG (.int .i64 (P.length:Int)) (fun α=>kB (bq (j:=1) (by kernel_rfl))) ?_
 refine PJ (.bool (decide (64*k<P.length))) (cW (64*k) P.length) ?_
 refine PH (decide (64*k<P.length)) (fun hlt=>?_) (fun hge=>?_)
 ·have hlt:64*k<P.length:=by simpa using hlt
  have h2:64*k+64≤P.length:=by omega
  obtain⟨Q,hQ⟩:∃ Q,Q=(P.drop (64*k)).take (64*k+64-64*k):=⟨_,rfl⟩
  have hQl:Q.length=64:=by rw [hQ,List.length_take,List.length_drop];omega
  have hstep:cv s (P.drop (64*k))=cv (bD s Q) (P.drop (64*(k+1))):=by
   rw [eO (by rw [List.length_drop];omega),hQ,List.drop_drop,show 64*k+64-64*k=64 by omega,show 64*k+64=64*(k+1) by omega]
  refine PJ (.int .i64 ((64*k+64:Nat):Int)) (db (a:=64*k) (b:=64) (d:=64*k+64) rfl (by omega)) ?_
  refine PG (.agg (Q.flatMap c8).toArray) (fun α=>by rw [hQ];exact Hw (l:=P) (lo:=64*k) (hi:=64*k+64) (bq (j:=1) (by kernel_rfl)) (by kernel_rfl) (by kernel_rfl) (by omega) h2) ?_
  refine PG (.agg (bD s Q).cells.toArray) (fun α=>⟨[⟨.agg s.cells.toArray,0,[]⟩,⟨(α 17).h,1,Q.flatMap c8⟩],⟨by kernel_rfl,by kernel_rfl,Eq.trans (b:=⟨(α 17).h,1,Q.flatMap c8++[]⟩) (by rw [List.append_nil]) (by kernel_rfl),trivial⟩,.inr ⟨rfl,s,_,Q,hQl,rfl,rfl⟩,af rfl⟩) ?_
  refine PJ (.int .i64 ((64*(k+1):Nat):Int)) (db (a:=64*k) (b:=64) (d:=64*(k+1)) (by omega) (by omega)) ?_
  exact bg rfl (fun α=>⟨k+1,bD s Q,by kernel_rfl,by omega,by rw [← hstep,hI]⟩) (fun α=>cast (by kernel_rfl) (show P.length-(64*(k+1))<P.length-64*k by omega))
 have hge:¬ 64*k<P.length:=by simpa using hge
 have hs:(cv cF P).1=s:=by
  rw [← hI,List.drop_of_length_le (by omega),gA (by simp)]
 refine P4 s.a 24 ?_
 refine P4 s.a 16 ?_
 refine P4 s.a 8 ?_
 refine P4 s.a 0 ?_
 refine P4 s.b 24 ?_
 refine P4 s.b 16 ?_
 refine P4 s.b 8 ?_
 refine P4 s.b 0 ?_
 refine P4 s.c 24 ?_
 refine P4 s.c 16 ?_
 refine P4 s.c 8 ?_
 refine P4 s.c 0 ?_
 refine P4 s.d 24 ?_
 refine P4 s.d 16 ?_
 refine P4 s.d 8 ?_
 refine P4 s.d 0 ?_
 refine P4 s.e 24 ?_
 refine P4 s.e 16 ?_
 refine P4 s.e 8 ?_
 refine P4 s.e 0 ?_
 refine P4 s.f 24 ?_
 refine P4 s.f 16 ?_
 refine P4 s.f 8 ?_
 refine P4 s.f 0 ?_
 refine P4 s.g 24 ?_
 refine P4 s.g 16 ?_
 refine P4 s.g 8 ?_
 refine P4 s.g 0 ?_
 refine P4 s.h 24 ?_
 refine P4 s.h 16 ?_
 refine P4 s.h 8 ?_
 refine P4 s.h 0 ?_
 exact aY fun α W _ _ hS=>jH (x:=.agg ((Dh s).flatMap c8).toArray) hS (by kernel_rfl) (by rw [hsum,hs])
def LI(f:FuncId)(xs:List SX.Arg)(v:Value):Prop:=f=88∧∃ (u:Value) (l:List W8),xs=[⟨u,1,l.flatMap c8⟩]∧l.length<2 ^ 45∧v=.agg ((dl l).flatMap c8).toArray
noncomputable def N1(K A:PZ):SX.Cx:={ P:=Tryz.prog,R:=fun _ f xs v=>LI f xs v,shp:=fun f=>if f=88 then some (.ag 32)else none,K:=K,A:=A,arr:=true,trm:=true }
theorem Ks(K A:PZ):(N1 K A).Ok:=SX.Cx.bP (fun _=>rfl) fun _ f xs v W h hrd hK=>by
 obtain⟨rfl,u,l,rfl,hl,rfl⟩:=h
 obtain⟨A,n,c,rfl,hr,hc,hn⟩:=cI (hrd ⟨u,1,l.flatMap c8⟩ (List.mem_singleton_self _))
 exact(xV l hl A n c W hr hc).mono fun e w' h=>al rfl h
def ml:List SX.V:=[.x 0 [],.x 1 []]
def jN:SX.Tree :=
(.df .s2b [(.q 0)] .any
(.df (.call 88 [(.row 1 [(.q 2)])]) [(.row 1)] (.ag 32)
(.df (.dR 1 1 (.own 1 (PN 3 0 32))) [(.cat []),(.sl 2 0 32 32)] .any
(.df (.dR 1 1 (.ext 1)) [(.cat [(.q 4)]),(.q 1)] .any
(.df (.call 88 [(.row 1 [(.q 4),(.q 5)])]) [(.row 5)] (.ag 32)
(.ret (.a (PN 6 0 32)) [] []))))))
theorem yb(K A:PZ):PY (N1 K A) ⟨fun _=>true,[],0,100⟩ 54 Tryz.f54 ml [.one,.one]=jN:=by kernel_rfl
theorem xW(s:ByteArray)(l:List W8)(hs:s.size<2 ^ 44)(hl:l.length<2 ^ 44)(A:Option Addr)(n c:Nat)(w:World)(hr:Rd w 1 A n (l.flatMap c8))(hc:n≤c):RT 54 #[.string s,.slice A n c] w (.agg ((jM (sb s) l).flatMap c8).toArray):=by
 refine b7 (C:=N1 (fun v z xs=>v=.slice A n c∧z=1∧xs=l.flatMap c8) P0) (G:=⟨fun _=>true,[],0,100⟩) (args:=ml) (sh:=[.one,.one]) (ρ:=[.string s,.slice A n c]) 100000 jN (Ks _ _) Tryz.func54 rfl (cast (by kernel_rfl) (yb (fun v z xs=>v=.slice A n c∧z=1∧xs=l.flatMap c8) P0)) (by kernel_rfl) (by kernel_rfl) (by kernel_rfl) (fun W hW v z xs ⟨h1,h2,h3⟩=>by subst h1;subst h2;subst h3;exact⟨hr.aD hW,hc⟩) ?_
 have one:∀ a,∀ u∈c8 a,u.oneCell'=true:=fun a u hu=>by
  obtain rfl:u=w8 a:=by simpa [c8]using hu
  rfl
 unfold jN
 refine PG (.agg ((sb s).flatMap c8).toArray) (fun α=>pD (by kernel_rfl)) ?_
 obtain⟨g,hg⟩:=sV (n:=32) (dl (sb s)) rfl
 refine PG (.agg (((List.range 32).map g).flatMap c8).toArray) (fun α=>by rw [← hg];exact⟨[⟨(α 1).h,1,(sb s).flatMap c8⟩],⟨Eq.trans (b:=⟨(α 1).h,1,(sb s).flatMap c8++[]⟩) (by rw [List.append_nil]) (by kernel_rfl),trivial⟩,⟨rfl,_,_,rfl,by rw [kE];omega,rfl⟩,af rfl⟩) ?_
 refine PG (.agg (((List.range 32).map g).flatMap c8).toArray) (fun α=>av aF one (by omega) (l1:=[]) (l2:=((List.range 32).map g)) (by kernel_rfl) (aG (by kernel_rfl)) (by simp) (by simp)) ?_
 refine PG (.agg (l.flatMap c8).toArray) (fun α=>av aF one (by omega) (l1:=((List.range 32).map g)) (l2:=l) (bq (by kernel_rfl)) (nc ⟨rfl,rfl,rfl⟩) (by simp;omega) (by simp;omega)) ?_
 obtain⟨g2,hg2⟩:=sV (n:=32) (jM (sb s) l) rfl
 refine PG (.agg (((List.range 32).map g2).flatMap c8).toArray) (fun α=>by rw [← hg2];exact⟨[⟨(α 5).h,1,(dl (sb s)++l).flatMap c8⟩],⟨Eq.trans (b:=⟨(α 5).h,1,((List.range 32).map g).flatMap c8++(l.flatMap c8++[])⟩) (by rw [hg,List.append_nil,List.flatMap_append]) (by kernel_rfl),trivial⟩,⟨rfl,_,_,rfl,by simp only [List.length_append,je];omega,rfl⟩,af rfl⟩) ?_
 exact aY fun α W _ _ hS=>jH (x:=.agg (((List.range 32).map g2).flatMap c8).toArray) hS (by kernel_rfl) (by rw [hg2])
def LJ(f:FuncId)(xs:List SX.Arg)(v:Value):Prop:=f=54∧∃ (s:ByteArray) (u:Value) (l:List W8),xs=[⟨.string s,0,[]⟩,⟨u,1,l.flatMap c8⟩]∧s.size<2 ^ 44∧l.length<2 ^ 44∧v=.agg ((jM (sb s) l).flatMap c8).toArray
noncomputable def N2(K A:PZ):SX.Cx:={ P:=Tryz.prog,R:=fun _ f xs v=>LJ f xs v,shp:=fun f=>if f=54 then some (.ag 32)else none,K:=K,A:=A,arr:=true,trm:=true }
theorem Ku(K A:PZ):(N2 K A).Ok:=SX.Cx.bP (fun _=>rfl) fun _ f xs v W h hrd hK=>by
 obtain⟨rfl,s,u,l,rfl,hs,hl,rfl⟩:=h
 obtain⟨A,n,c,rfl,hr,hc,hn⟩:=cI (hrd ⟨u,1,l.flatMap c8⟩ (List.mem_cons_of_mem _ (List.mem_singleton_self _)))
 exact(xW s l hs hl A n c W hr hc).mono fun e w' h=>al rfl h
theorem JF(i:Nat):i^^^1=if i % 2=0 then i+1 else i-1:=by
 have h1:(i^^^1) / 2=i / 2:=by rw [Nat.xor_div_two];simp
 have h2:((i^^^1) % 2=1)↔¬ ((i % 2=1)↔(1 % 2=1)):=Nat.xor_mod_two_eq_one
 split<;>omega
theorem EQ{w:World}{v:Value}{z:Nat}{xs:List Value}(h:SX.Arg.rd w ⟨v,z,xs⟩):KW w v z xs:=fun W hW=>by
 unfold SX.Arg.rd at h ⊢
 split at h
 ·exact⟨h.1.aD hW,h.2⟩
 exact h
def NH(f:FuncId)(xs:List SX.Arg)(v:Value):Prop:=f=88∧∃ (u:Value) (l:List W8),xs=[⟨u,1,l.flatMap c8⟩]∧l.length<35184372088832∧v=ec (fA l)
theorem tk{f:FuncId}{xs:List SX.Arg}{v:Value}{W:World}(h:NH f xs v)(hrd:∀ x∈xs,x.rd W):Calls Tryz.prog f (xs.map SX.Arg.v).toArray W fun e w'=>e=.returned v∧Below W.heap.size W w':=by
 obtain⟨rfl,u,l,rfl,hl,rfl⟩:=h
 obtain⟨A,n,c,rfl,hr,hc,hn⟩:=cI (hrd ⟨u,1,l.flatMap c8⟩ (by simp))
 rw [← uv]
 exact xV l hl A n c W hr hc
def NI(f:FuncId)(xs:List SX.Arg)(v:Value):Prop:=f=89∧∃ (tag:ByteArray) (u:Value) (l:List W8),xs=[⟨.string tag,0,[]⟩,⟨u,1,l.flatMap c8⟩]∧tag.size<1073741824∧l.length≤17592186044416∧v=.agg ((dl (sb tag)++l).flatMap c8).toArray
def Pn(f:FuncId)(xs:List SX.Arg)(v:Value):Prop:=f=90∧∃ x y:Dg,xs=[⟨ec x,0,[]⟩,⟨ec y,0,[]⟩]∧v=.agg ((lA x y).flatMap c8).toArray
def Pm(f:FuncId)(xs:List SX.Arg)(v:Value):Prop:=f=56∧∃ (u:Value) (ds:List Dg),xs=[⟨u,32,aT ds⟩]∧ds.length≤1000000∧v=.agg (aT (gr ds)).toArray
def Pk(K:PZ)(f:FuncId)(xs:List SX.Arg)(v:Value):Prop:=f=55∧∃ (u:Value) (ps:List Pb),xs=[⟨u,1,ps.map (·.1)⟩]∧(∀ p∈ps,K p.1 1 (p.2.flatMap c8))∧ps.length≤1000000∧(∀ p∈ps,p.2.length≤17592186044416)∧v=.agg (aT (ps.map gF)).toArray
def BO:FuncId→Option SX.Sh:=fun f=>if f∈[88,54]then some (.ag 32)else if f∈[89,90]then some (.sl 1)else if f∈[56,55]then some (.sl 32)else none
noncomputable def Md(K A:PZ):SX.Cx:={ P:=Tryz.prog,R:=fun K f xs v=>NH f xs v,shp:=BO,K:=K,A:=A,trm:=true }
theorem Ix(K A:PZ):(Md K A).Ok:=by
 refine SX.Cx.bP (fun _=>rfl) ?_
 intro K f xs v W hR hrd hKf
 have hf:=hR.1
 exact(tk hR hrd).mono fun e w' k=>al (by subst hf;rfl) k
def oS:SX.Tree :=(.df .s2b [(.q 0)] .any
(.df (.call 88 [(.row 1 [(.q 2)])]) [(.row 0)] (.ag 32)
(.df (.dR 1 1 (.own 1 (PN 3 0 32))) [(.cat []),(.sl 1 0 32 32)] .any
(.df (.dR 1 1 (.ext 1)) [(.cat [(.q 4)]),(.q 1)] .any
(.ret (.row 4) [none,none,none,none,(some ⟨[(.q 4),(.q 5)],5,(.row 1)⟩)] [])))))
def wz:List SX.V:=[.x 0 [],.x 1 []]
def zf:jl:=⟨fun f=>true,[],2,100⟩
theorem Aw(K A:PZ):PY (Md K A) zf 89 Tryz.f89 wz [.one,.one]=oS:=by kernel_rfl
theorem DT(tag:ByteArray)(l:List W8)(A:Option Addr)(n c:Nat)(w:World)(htag:tag.size<1073741824)(hl:l.length≤17592186044416)(hr:Rd w 1 A n (l.flatMap c8))(hc:n≤c):RS 89 #[.string tag,.slice A n c] w 1 ((dl (sb tag)++l).flatMap c8):=by
 refine PK (Aw (KW w) P0) [.string tag,.slice A n c] (Ix _ _) Tryz.func89 ?_ ?_
 ·exact fun W hW v z xs h=>h W hW
 have hK1:KW w (.slice A n c) 1 (l.flatMap c8):=fun W hW=>⟨hr.aD hW,hc⟩
 unfold oS
 refine PG (.agg ((sb tag).flatMap c8).toArray) (fun α=>pD (by kernel_rfl)) ?_
 refine PG (ec (fA (sb tag))) (fun α=>⟨[⟨(α 0).h,1,(sb tag).flatMap c8⟩],⟨Eq.trans (dT (α 0).h 1 ((sb tag).flatMap c8)) (by kernel_rfl),trivial⟩,⟨rfl,_,_,rfl,by rw [kE];omega,rfl⟩,af rfl⟩) ?_
 have hD:=pV (sb tag)
 generalize fA (sb tag)=D at *
 generalize dl (sb tag)=X at *
 refine PG (.agg ((eE D).flatMap c8).toArray) (fun α=>av (f:=c8) aF vM (by decide) (l1:=[]) (l2:=eE D) (by kernel_rfl) (aG (by kernel_rfl)) (by simp [eb]) (by simp [eb])) ?_
 refine aK (.agg (l.flatMap c8).toArray) (fun α=>av (f:=c8) aF vM (by decide) (l1:=eE D) (l2:=l) (bq (j:=4) (by kernel_rfl)) (nc (cast (by kernel_rfl) hK1)) (by rw [eb];omega) (by rw [eb];omega)) rfl ?_
 exact aY fun α W _ hrow hS=>⟨hS.below,_,by kernel_rfl,az.row hS (n:=4) (b:=(⟨[(.x 4 []),(.x 5 [])],5,(.row 1)⟩:ae)) (by kernel_rfl) rfl (hrow 4 _ (by kernel_rfl)) (Eq.trans (b:=[Value.agg ((eE D).flatMap c8).toArray,.agg (l.flatMap c8).toArray].flatMap aa) (by kernel_rfl) (by rw [← hD];simp [aa]))⟩
theorem tm{f:FuncId}{xs:List SX.Arg}{v:Value}{W:World}{C:SX.Cx}(h:NI f xs v)(hs:C.sh 89=.sl 1)(hrd:∀ x∈xs,x.rd W):Calls Tryz.prog f (xs.map SX.Arg.v).toArray W fun e w'=>Below W.heap.size W w'∧∃ hdr,e=.returned ((C.sh f).fill hdr v)∧∀ p z,(p,z)∈(C.sh f).so []→mi C f xs W w' hdr z (aa (p.foldl SX.comp v)):=by
 obtain⟨rfl,tag,u,l,rfl,ht,hl,rfl⟩:=h
 obtain⟨A,n,c,rfl,hr,hc,hn⟩:=cI (hrd ⟨u,1,l.flatMap c8⟩ (by simp))
 exact Calls.mono (DT tag l A n c W ht hl hr hc) fun e w' h=>az.uS hs h
noncomputable def Me(K A:PZ):SX.Cx:={ P:=Tryz.prog,R:=fun K f xs v=>NI f xs v,shp:=BO,K:=K,A:=A,trm:=true }
theorem Iy(K A:PZ):(Me K A).Ok:=by
 refine SX.Cx.bP (fun _=>rfl) ?_
 intro K f xs v W hR hrd hKf
 exact tm hR rfl hrd
def rI:SX.Tree :=(.df (.dR 1 1 (.own 1 (PN 0 0 32))) [(.cat []),(.sl 0 0 32 32)] .any
(.df (.dR 1 1 (.own 1 (PN 1 0 32))) [(.cat [(.q 2)]),(.sl 1 0 32 32)] .any
(.df (.call 89 [.no,(.row 1 [(.q 2),(.q 3)])]) [(.k (.string ⟨#[110,111,100,101]⟩)),(.row 6)] (.sl 1)
(.ret (.row 7) (List.replicate 7 none++[(some ⟨[(.q 4)],0,(.ext 1)⟩)]) []))))
def yZ:List SX.V:=[.a ((List.range 32).map fun j=>.x 0 [j]),.a ((List.range 32).map fun j=>.x 1 [j])]
def Cy:jl:=⟨fun f=>true,[],2,100⟩
theorem Eg(K A:PZ):PY (Me K A) Cy 90 Tryz.f90 yZ [.ag 32,.ag 32]=rI:=by kernel_rfl
theorem GP(x y:Dg)(w:World):RS 90 #[ec x,ec y] w 1 ((lA x y).flatMap c8):=by
 refine PK (Eg (KW w) P0) [ec x,ec y] (Iy _ _) Tryz.func90 ?_ ?_
 ·exact fun W hW v z xs h=>h W hW
 unfold lA
 generalize hX:dl (sb oA)=X at *
 unfold rI
 refine PG (.agg ((eE x).flatMap c8).toArray) (fun α=>av (f:=c8) aF vM (by decide) (l1:=[]) (l2:=eE x) (by kernel_rfl) (aG (by kernel_rfl)) (by simp [eb]) (by simp [eb])) ?_
 refine PG (.agg ((eE y).flatMap c8).toArray) (fun α=>av (f:=c8) aF vM (by decide) (l1:=eE x) (l2:=eE y) (bq (j:=2) (by kernel_rfl)) (aG (by kernel_rfl)) (by simp [eb]) (by simp [eb])) ?_
 refine aK (.agg ((X++(eE x++eE y)).flatMap c8).toArray) (fun α=>⟨[⟨.string oA,0,[]⟩,⟨(α 6).h,1,(eE x++eE y).flatMap c8⟩],⟨by kernel_rfl,by kernel_rfl,Eq.trans (b:=(⟨(α 6).h,1,[Value.agg ((eE x).flatMap c8).toArray,.agg ((eE y).flatMap c8).toArray].flatMap aa⟩:SX.Arg)) (by simp [aa]) (by kernel_rfl),trivial⟩,⟨rfl,oA,_,eE x++eE y,rfl,by decide,by simp [eb],by rw [hX]⟩,af rfl⟩) (cC _) ?_
 exact aY fun α W _ hR hS=>⟨hS.below,(α 7).h,by kernel_rfl,az.wV hS (n:=7) (b:=(⟨[(.x 4 [])],0,(.ext 1)⟩:ae)) (by kernel_rfl) rfl (hR 7 _ (by kernel_rfl)) (Eq.trans (b:=[Value.agg ((X++(eE x++eE y)).flatMap c8).toArray].flatMap aa) (by kernel_rfl) (by simp [aa])) (fun W2 s z xs hk=>nomatch hk) (fun B s z xs hk=>nomatch hk)⟩
noncomputable def Kl(K A:PZ):SX.Cx:={ P:=Tryz.prog,R:=fun K f xs v=>NH f xs v∨Pn f xs v∨NI f xs v,shp:=BO,K:=K,A:=A,trm:=true }
theorem Be(K A:PZ):(Kl K A).Ok:=by
 refine SX.Cx.bP (fun _=>rfl) ?_
 intro K f xs v W hR hrd hKf
 rcases hR with hR|⟨rfl,x,y,rfl,rfl⟩|hR
 ·have hf:=hR.1
  exact(tk hR hrd).mono fun e w' k=>al (by subst hf;rfl) k
 ·exact Calls.mono (GP x y W) fun e w' h=>az.uS rfl h
 exact tm hR rfl hrd
def oP:SX.Tree :=(.loop [(.i 0),(.cat [])] [.one,.any]
(.df (.len false) [(.q 0)] .one
(.df (.bin .lss 3) [(.q 1),(.q 3)] .one
(.br 4 []
(.df (.bin .add 3) [(.q 1),(.i 1)] .one
(.df (.len false) [(.q 0)] .one
(.df (.bin .lss 3) [(.q 5),(.q 6)] .one
(.br 7 []
(.df .bnd [(.q 0),(.q 1)] .one
(.df (.elems 32 0 32) [(.q 0),(.q 1)] (.ag 32)
(.df (.bin .add 3) [(.q 1),(.i 1)] .one
(.df .bnd [(.q 0),(.q 10)] .one
(.df (.elems 32 0 32) [(.q 0),(.q 10)] (.ag 32)
(.df (.call 90 [.no,.no]) [(.a (PN 9 0 32)),(.a (PN 12 0 32))] (.sl 1)
(.df (.call 88 [(.row 1 [(.q 13)])]) [(.row 13)] (.ag 32)
(.df (.dR 32 32 (.own 32 (PN 14 0 32))) [(.cat [(.q 2)]),(.sl 15 0 1 1)] .any
(.df (.bin .add 3) [(.q 1),(.i 2)] .one
(.again 0 [(.q 16),(.cat [(.q 2),(.q 15)])]))))))))))
(.df .bnd [(.q 0),(.q 1)] .one
(.df (.elems 32 0 32) [(.q 0),(.q 1)] (.ag 32)
(.df (.dR 32 32 (.own 32 (PN 9 0 32))) [(.cat [(.q 2)]),(.sl 3 0 1 1)] .any
(.df (.bin .add 3) [(.q 1),(.i 2)] .one
(.again 0 [(.q 11),(.cat [(.q 2),(.q 10)])])))))))))
(.ret (.row 2) [none,none,(some ⟨[(.q 2)],27,(.row 32)⟩)] [])))))
def wv:List SX.V:=[.x 0 []]
def zc:jl:=⟨fun f=>true,[⟨56,3,[(.s 4,.one),(.s 3,.row 32 27)]⟩],2,100⟩
theorem At(K A:PZ):PY (Kl K A) zc 56 Tryz.f56 wv [.one]=oP:=by kernel_rfl
theorem DK(ds:List Dg)(A:Option Addr)(n c:Nat)(w:World)(hr:Rd w 32 A n (aT ds))(hc:n≤c)(hl:ds.length≤1000000):RS 56 #[.slice A n c] w 32 (aT (gr ds)):=by
 refine PK (At (KW w) P0) [.slice A n c] (Be _ _) Tryz.func56 ?_ ?_
 ·exact fun W hW v z xs h=>h W hW
 have hA:=SX.rd_some hr
 have hln:ds.length=n:=by have:=hr.1;rw [dv]at this;omega
 have hK1:KW w (.slice A n c) 32 (aT ds):=fun W hW=>⟨hr.aD hW,hc⟩
 unfold oP
 refine bC (fun xs=>∃ (i:Nat) (acc:List Dg),xs=[.int .i64 (i:Int),.agg (aT acc).toArray]∧i≤n+1∧acc.length≤i∧acc++gr (ds.drop i)=gr ds) (fun xs=>match xs with|.int _ k::_=>n+2-k.toNat|_=>0) (fun α=>⟨0,[],by kernel_rfl,by omega,by simp,by simp⟩) ?_
 rintro xs-⟨i,acc,rfl,hi,hal,hI⟩
 refine PF (.int .i64 (n:Int)) ?_
 refine PJ (.bool (decide (i<n))) (cW i n) ?_
 refine PH (decide (i<n)) (fun h1=>?_) (fun h1=>?_)
 ·have h1:i<n:=by simpa using h1
  obtain⟨x,hx⟩:∃ x,ds[i]?=some x:=⟨_,List.getElem?_eq_getElem (by omega)⟩
  have hdr:ds.drop i=x::ds.drop (i+1):=by rw [← List.getElem_cons_drop (by omega:i<ds.length)];congr 1;exact(List.getElem?_eq_some_iff.1 hx).2
  refine PJ (.int .i64 ((i+1:Nat):Int)) (db (a:=i) (b:=1) (d:=i+1) rfl (by omega)) ?_
  refine PF (.int .i64 (n:Int)) ?_
  refine PJ (.bool (decide (i+1<n))) (cW (i+1) n) ?_
  refine PH (decide (i+1<n)) (fun h2=>?_) (fun h2=>?_)
  ·have h2:i+1<n:=by simpa using h2
   obtain⟨y,hy⟩:∃ y,ds[i+1]?=some y:=⟨_,List.getElem?_eq_getElem (by omega)⟩
   have hdr2:ds.drop (i+1)=y::ds.drop (i+2):=by rw [← List.getElem_cons_drop (by omega:i+1<ds.length)];congr 1;exact(List.getElem?_eq_some_iff.1 hy).2
   rw [hdr,hdr2,nw]at hI
   refine PQ A n c i hA h1 ?_
   refine PR (f:=ah) (l:=ds) (ec x) A n c i x hA (by omega) (cast (by kernel_rfl) hK1) hx ?_
   refine PJ (.int .i64 ((i+1:Nat):Int)) (db (a:=i) (b:=1) (d:=i+1) rfl (by omega)) ?_
   refine PQ A n c (i+1) hA h2 ?_
   refine PR (f:=ah) (l:=ds) (ec y) A n c (i+1) y hA (by omega) (cast (by kernel_rfl) hK1) hy ?_
   refine aK (.agg ((lA x y).flatMap c8).toArray) (fun α=>⟨[⟨ec x,0,[]⟩,⟨ec y,0,[]⟩],PU,.inr (.inl ⟨rfl,x,y,rfl,rfl⟩),af rfl⟩) (cC _) ?_
   have hnl:(lA x y).length=96:=rfl
   generalize lA x y=N at *
   refine PG (ec (fA N)) (fun α=>⟨[⟨(α 13).h,1,N.flatMap c8⟩],⟨Eq.trans (dT (α 13).h 1 (N.flatMap c8)) (by kernel_rfl),trivial⟩,.inl ⟨rfl,_,_,rfl,by omega,rfl⟩,af rfl⟩) ?_
   generalize fA N=D at *
   refine PG (.agg ([D].flatMap ah).toArray) (fun α=>av (f:=ah) (l1:=acc) (l2:=[D]) (fun _=>rfl) bO (by decide) (bq (j:=2) (by kernel_rfl)) (aG (by kernel_rfl)) (by simp;omega) (by simp;omega)) ?_
   refine PJ (.int .i64 ((i+2:Nat):Int)) (db (a:=i) (b:=2) (d:=i+2) rfl (by omega)) ?_
   exact bg rfl (fun α=>⟨i+2,acc++[D],Eq.trans (b:=[.int .i64 ((i+2:Nat):Int),.agg ([Value.agg (aT acc).toArray,.agg ([D].flatMap ah).toArray].flatMap aa).toArray]) (by kernel_rfl) (by simp [aa,aT]),by omega,by simp;omega,by rw [← hI];simp⟩) (fun α=>cast (by kernel_rfl) (show n+2-((i+2:Nat):Int).toNat<n+2-(i:Int).toNat by omega))
  have h2:¬ i+1<n:=by simpa using h2
  have hd1:ds.drop (i+1)=[]:=List.drop_eq_nil_of_le (by omega)
  have hd2:ds.drop (i+2)=[]:=List.drop_eq_nil_of_le (by omega)
  rw [hdr,hd1,show gr [x]=[x] from rfl]at hI
  refine PQ A n c i hA h1 ?_
  refine PR (f:=ah) (l:=ds) (ec x) A n c i x hA (by omega) (cast (by kernel_rfl) hK1) hx ?_
  refine PG (.agg ([x].flatMap ah).toArray) (fun α=>av (f:=ah) (l1:=acc) (l2:=[x]) (fun _=>rfl) bO (by decide) (bq (j:=2) (by kernel_rfl)) (aG (by kernel_rfl)) (by simp;omega) (by simp;omega)) ?_
  refine PJ (.int .i64 ((i+2:Nat):Int)) (db (a:=i) (b:=2) (d:=i+2) rfl (by omega)) ?_
  exact bg rfl (fun α=>⟨i+2,acc++[x],Eq.trans (b:=[.int .i64 ((i+2:Nat):Int),.agg ([Value.agg (aT acc).toArray,.agg ([x].flatMap ah).toArray].flatMap aa).toArray]) (by kernel_rfl) (by simp [aa,aT]),by omega,by simp;omega,by rw [hd2,← hI];simp [gr]⟩) (fun α=>cast (by kernel_rfl) (show n+2-((i+2:Nat):Int).toNat<n+2-(i:Int).toNat by omega))
 have h1:¬ i<n:=by simpa using h1
 rw [List.drop_eq_nil_of_le (by omega),show gr []=[] from rfl,List.append_nil]at hI
 exact aY fun α W _ hrow hS=>⟨hS.below,_,by kernel_rfl,az.row hS (n:=2) (b:=(⟨[(.x 2 [])],27,(.row 32)⟩:ae)) (by kernel_rfl) rfl (hrow 2 _ (by kernel_rfl)) (Eq.trans (b:=[Value.agg (aT acc).toArray].flatMap aa) (by kernel_rfl) (by rw [← hI];simp [aa]))⟩
def nn:SX.Tree :=(.loop [(.i 0),(.cat [])] [.one,.any]
(.df (.len false) [(.q 0)] .one
(.df (.bin .lss 3) [(.q 1),(.q 3)] .one
(.br 4 []
(.df .bnd [(.q 0),(.q 1)] .one
(.df (.elem 1 0) [(.q 0),(.q 1)] .one
(.df (.call 89 [.no,(.ext 1)]) [(.k (.string ⟨#[108,101,97,102]⟩)),(.q 6)] (.sl 1)
(.df (.call 88 [(.row 1 [(.q 7)])]) [(.row 3)] (.ag 32)
(.df (.dR 32 32 (.own 32 (PN 8 0 32))) [(.cat [(.q 2)]),(.sl 4 0 1 1)] .any
(.df (.bin .add 3) [(.q 1),(.i 1)] .one
(.again 0 [(.q 10),(.cat [(.q 2),(.q 9)])])))))))
(.ret (.row 2) [none,none,(some ⟨[(.q 2)],27,(.row 32)⟩)] [])))))
def ui:List SX.V:=[.x 0 []]
def wI:jl:=⟨fun f=>true,[⟨55,3,[(.s 4,.one),(.s 3,.row 32 27)]⟩],2,100⟩
theorem x7(K A:PZ):PY (Kl K A) wI 55 Tryz.f55 ui [.one]=nn:=by kernel_rfl
theorem z8(ps:List Pb)(A:Option Addr)(n c:Nat)(w:World)(hr:Rd w 1 A n (ps.map (·.1)))(hc:n≤c)(hl:ps.length≤1000000)(hp:∀ p∈ps,SX.Arg.rd w ⟨p.1,1,p.2.flatMap c8⟩)(hpl:∀ p∈ps,p.2.length≤17592186044416):RS 55 #[.slice A n c] w 32 (aT (ps.map gF)):=by
 refine PK (x7 (KW w) P0) [.slice A n c] (Be _ _) Tryz.func55 ?_ ?_
 ·exact fun W hW v z xs h=>h W hW
 have hA:=SX.rd_some hr
 have hln:ps.length=n:=by have:=hr.1;rw [List.length_map]at this;omega
 have hK1:KW w (.slice A n c) 1 (ps.flatMap fun p=>[p.1]):=fun W hW=>by rw [zw];exact⟨hr.aD hW,hc⟩
 have hKp:∀ p∈ps,KW w p.1 1 (p.2.flatMap c8):=fun p hm=>EQ (hp p hm)
 unfold nn
 refine bC (fun xs=>∃ i:Nat,xs=[.int .i64 (i:Int),.agg (aT ((ps.take i).map gF)).toArray]∧i≤n) (fun xs=>match xs with|.int _ k::_=>n-k.toNat|_=>0) (fun α=>⟨0,by kernel_rfl,by omega⟩) ?_
 rintro xs-⟨i,rfl,hi⟩
 refine PF (.int .i64 (n:Int)) ?_
 refine PJ (.bool (decide (i<n))) (cW i n) ?_
 refine PH (decide (i<n)) (fun h1=>?_) (fun h1=>?_)
 ·have h1:i<n:=by simpa using h1
  obtain⟨p,hp1⟩:∃ p,ps[i]?=some p:=⟨_,List.getElem?_eq_getElem (by omega)⟩
  have hpm:=List.mem_of_getElem? hp1
  have htk:(ps.take (i+1)).map gF=(ps.take i).map gF++[gF p]:=by rw [List.take_add_one,hp1];simp
  rw [show gF p=fA (kY p.2) from rfl]at htk
  have hpl2:=hpl p hpm
  refine PQ A n c i hA h1 ?_
  refine aK p.1 (fun α=>bx (o:=0) (v:=p.1) (f:=fun p:Pb=>[p.1]) (l:=ps) (A:=A) (n:=n) (c:=c) (j:=i) (z:=p) (fun _=>rfl) hA (by kernel_rfl) (by kernel_rfl) h1 (cast (by kernel_rfl) hK1) hp1 (by decide) (by kernel_rfl)) (by obtain⟨A,n,c,e,_⟩:=bG (hp p hpm);rw [e];rfl) ?_
  unfold kY at htk
  have hXl:=je (sb jV)
  generalize hX:dl (sb jV)=X at *
  refine aK (.agg ((X++p.2).flatMap c8).toArray) (fun α=>⟨[⟨.string jV,0,[]⟩,⟨p.1,1,p.2.flatMap c8⟩],⟨by kernel_rfl,by kernel_rfl,by kernel_rfl,rfl,cast (by kernel_rfl) (hKp p hpm),trivial⟩,.inr (.inr ⟨rfl,jV,_,p.2,rfl,by decide,hpl2,by rw [hX]⟩),af rfl⟩) (cC _) ?_
  have hNl:(X++p.2).length≤17592186044448:=by rw [List.length_append,hXl];omega
  generalize X++p.2=N at *
  refine PG (ec (fA N)) (fun α=>⟨[⟨(α 3).h,1,N.flatMap c8⟩],⟨Eq.trans (dT (α 3).h 1 (N.flatMap c8)) (by kernel_rfl),trivial⟩,.inl ⟨rfl,_,_,rfl,by omega,rfl⟩,af rfl⟩) ?_
  generalize fA N=D at *
  refine PG (.agg ([D].flatMap ah).toArray) (fun α=>av (f:=ah) (l1:=(ps.take i).map gF) (l2:=[D]) (fun _=>rfl) bO (by decide) (bq (j:=2) (by kernel_rfl)) (aG (by kernel_rfl)) (by simp;omega) (by simp;omega)) ?_
  refine PJ (.int .i64 ((i+1:Nat):Int)) (db (a:=i) (b:=1) (d:=i+1) rfl (by omega)) ?_
  exact bg rfl (fun α=>⟨i+1,Eq.trans (b:=[.int .i64 ((i+1:Nat):Int),.agg ([Value.agg (aT ((ps.take i).map gF)).toArray,.agg ([D].flatMap ah).toArray].flatMap aa).toArray]) (by kernel_rfl) (by rw [htk];simp [aa,aT]),by omega⟩) (fun α=>cast (by kernel_rfl) (show n-((i+1:Nat):Int).toNat<n-(i:Int).toNat by omega))
 have h1:¬ i<n:=by simpa using h1
 have htk:ps.take i=ps:=List.take_of_length_le (by omega)
 rw [htk]
 exact aY fun α W _ hrow hS=>⟨hS.below,_,by kernel_rfl,az.row hS (n:=2) (b:=(⟨[(.x 2 [])],27,(.row 32)⟩:ae)) (by kernel_rfl) rfl (hrow 2 _ (by kernel_rfl)) (Eq.trans (b:=[Value.agg (aT (ps.map gF)).toArray].flatMap aa) (by kernel_rfl) (by simp [aa]))⟩
noncomputable def Km(K A:PZ):SX.Cx:={ P:=Tryz.prog,R:=fun K f xs v=>Pm f xs v∨Pk K f xs v,shp:=BO,K:=K,A:=A,trm:=true }
theorem Bg(K A:PZ):(Km K A).Ok:=by
 refine SX.Cx.bP (fun _=>rfl) ?_
 intro K f xs v W hR hrd hKf
 rcases hR with ⟨rfl,u,ds,rfl,hl,rfl⟩|⟨rfl,u,ps,rfl,hk,hl,hp,rfl⟩
 ·obtain⟨A,n,c,rfl,h1,h2⟩:=bG (hrd ⟨u,32,aT ds⟩ (by simp))
  exact Calls.mono (DK ds A n c W h1 h2 hl) fun e w' h=>az.uS rfl h
 obtain⟨A,n,c,rfl,h1,h2⟩:=bG (hrd ⟨u,1,ps.map (·.1)⟩ (by simp))
 exact Calls.mono (z8 ps A n c W h1 h2 hl (fun p hm=>hKf _ _ _ (hk p hm)) hp) fun e w' h=>az.uS rfl h
theorem kR(l:List Dg):SX.Sh.fit (.sl 32) (.agg (aT l).toArray)=true:=by
 have h1:(aT l).length % 32=0:=by rw [dv];omega
 have h2:(aT l).all (·.oneCell')=true:=by
  rw [List.all_eq_true]
  intro u hu
  obtain⟨a,_,h⟩:=List.mem_flatMap.1 hu
  exact bO a u h
 simp only [SX.Sh.fit,h1,h2]
 rfl
def oQ:SX.Tree :=(.df (.len false) [(.q 0)] .one
(.df (.bin .eql 3) [(.q 1),(.i 0)] .one
(.br 2 []
(.df (.call 54 [.no,(.own 1 [])]) [(.k (.string ⟨#[110,111,110,101]⟩)),(.k (.slice none 0 0))] (.ag 32)
(.ret (.a (PN 3 0 32)) [] []))
(.df (.call 55 [(.ext 1)]) [(.q 0)] (.sl 32)
(.loop [(.cat [(.q 3)])] [.any]
(.df (.rlen 32) [(.cat [(.q 4)])] .one
(.df (.bin .gtr 3) [(.q 5),(.i 1)] .one
(.br 6 []
(.df (.call 56 [(.row 32 [(.q 4)])]) [(.row 2)] (.sl 32)
(.again 0 [(.cat [(.q 7)])]))
(.df (.rbnd 32) [(.cat [(.q 4)]),(.i 0)] .one
(.df (.relems 32 0 32) [(.cat [(.q 4)]),(.i 0)] (.ag 32)
(.ret (.a (PN 8 0 32)) [] [])))))))))))
def wx:List SX.V:=[.x 0 []]
def zd:jl:=⟨fun f=>true,[⟨23,4,[(.s 3,.ext 32)]⟩],0,100⟩
theorem Au(K A:PZ):PY (Km K A) zd 23 Tryz.f23 wx [.one]=oQ:=by kernel_rfl
theorem DP(ps:List Pb)(A:Option Addr)(n c:Nat)(w:World)(hr:Rd w 1 A n (ps.map (·.1)))(hc:n≤c)(h0:ps≠[])(hl:ps.length≤1000000)(hp:∀ p∈ps,SX.Arg.rd w ⟨p.1,1,p.2.flatMap c8⟩)(hpl:∀ p∈ps,p.2.length≤17592186044416):RT 23 #[.slice A n c] w (ec (dQ (ps.map gF))):=by
 refine PK (Au (KW w) P0) [.slice A n c] (Bg _ _) Tryz.func23 ?_ ?_
 ·exact fun W hW v z xs h=>h W hW
 have hln:ps.length=n:=by have:=hr.1;rw [List.length_map]at this;omega
 have hn0:n≠0:=fun h=>h0 (List.eq_nil_of_length_eq_zero (by omega))
 have hK1:KW w (.slice A n c) 1 (ps.map (·.1)):=fun W hW=>⟨hr.aD hW,hc⟩
 have hKp:∀ p∈ps,KW w p.1 1 (p.2.flatMap c8):=fun p hm=>EQ (hp p hm)
 unfold oQ
 refine PF (.int .i64 (n:Int)) ?_
 refine PF (.bool ((n:Int) == 0)) ?_
 refine PH ((n:Int) == 0) (fun h=>absurd h (by simp;omega)) (fun _=>?_)
 refine aK (.agg (aT (ps.map gF)).toArray) (fun α=>⟨[⟨.slice A n c,1,ps.map (·.1)⟩],⟨by kernel_rfl,rfl,cast (by kernel_rfl) hK1,trivial⟩,.inr ⟨rfl,_,ps,rfl,hKp,by omega,hpl,rfl⟩,af rfl⟩) (kR _) ?_
 have hml:(ps.map gF).length=n:=by rw [List.length_map,hln]
 generalize ps.map gF=ds at *
 refine bC (fun xs=>∃ l:List Dg,xs=[.agg (aT l).toArray]∧0<l.length∧l.length≤n∧dQ l=dQ ds) (fun xs=>match xs with|.agg cs::_=>cs.toList.length|_=>0) (fun α=>⟨ds,Eq.trans (b:=[.agg ([Value.agg (aT ds).toArray].flatMap aa).toArray]) (by kernel_rfl) (by simp [aa]),by omega,by omega,rfl⟩) ?_
 rintro xs-⟨l,rfl,hl0,hl1,hI⟩
 have hu:=iB l
 refine PG (.int .i64 (l.length:Int)) (fun α=>m4 (f:=ah) (l:=l) (fun _=>rfl) (by decide) (bq (j:=4) (by kernel_rfl))) ?_
 refine PJ (.bool (decide (1<l.length))) (fh l.length 1) ?_
 refine PH (decide (1<l.length)) (fun h2=>?_) (fun h2=>?_)
 ·have h2:1<l.length:=by simpa using h2
  rw [← vu (by omega)]at hI
  refine aK (.agg (aT (gr l)).toArray) (fun α=>⟨[⟨(α 2).h,32,aT l⟩],⟨Eq.trans (dT (α 2).h 32 (aT l)) (by kernel_rfl),trivial⟩,.inl ⟨rfl,_,l,rfl,by omega,rfl⟩,af rfl⟩) (kR _) ?_
  generalize gr l=l2 at *
  exact bg rfl (fun α=>⟨l2,Eq.trans (b:=[.agg ([Value.agg (aT l2).toArray].flatMap aa).toArray]) (by kernel_rfl) (by simp [aa]),by omega,by omega,hI⟩) (fun α=>cast (by kernel_rfl) (show([Value.agg (aT l2).toArray].flatMap aa).length<(aT l).length by simp [aa,dv];omega))
 have h2:¬ 1<l.length:=by simpa using h2
 obtain⟨x,hx⟩:∃ x,l[0]?=some x:=⟨_,List.getElem?_eq_getElem hl0⟩
 rw [rb (by omega)]at hI
 have he:dQ ds=x:=by
  rw [← hI]
  match l,hx with
  | a::r,hx=>cases hx;rfl
 rw [he]
 refine PG (.bool true) (fun α=>gz (k:=0) (f:=ah) (l:=l) (fun _=>rfl) (by decide) (bq (j:=4) (by kernel_rfl)) (by kernel_rfl) hl0) ?_
 refine PG (ec x) (fun α=>jG (k:=0) (f:=ah) (l:=l) (fun _=>rfl) (by decide) (bq (j:=4) (by kernel_rfl)) (by kernel_rfl) hx) ?_
 exact PI (ec x) rfl
def np:SX.Tree :=(.df (.len false) [(.q 0)] .one
(.df (.bin .gtr 3) [(.q 2),(.i 65536)] .one
(.br 3 []
(.ret (.t [(.k (.slice none 0 0)),(.i 1)]) [] [])
(.df (.bin .lss 3) [(.q 1),(.i 0)] .one
(.br 4 []
(.ret (.t [(.k (.slice none 0 0)),(.i 1)]) [] [])
(.df (.len false) [(.q 0)] .one
(.df (.bin .geq 3) [(.q 1),(.q 5)] .one
(.br 6 []
(.ret (.t [(.k (.slice none 0 0)),(.i 1)]) [] [])
(.df (.call 55 [(.ext 1)]) [(.q 0)] (.sl 32)
(.loop [(.q 1),(.cat [(.q 7)]),(.cat [])] [.one,.any,.any]
(.df (.rlen 32) [(.cat [(.q 9)])] .one
(.df (.bin .gtr 3) [(.q 11),(.i 1)] .one
(.br 12 []
(.df (.bin .rem 3) [(.q 8),(.i 2)] .one
(.df (.bin .eql 3) [(.q 13),(.i 1)] .one
(.br 14 []
(.df (.bin .sub 3) [(.q 8),(.i 1)] .one
(.df (.rbnd 32) [(.cat [(.q 9)]),(.q 15)] .one
(.df (.relems 32 0 32) [(.cat [(.q 9)]),(.q 15)] (.ag 32)
(.df (.dR 32 32 (.own 32 (PN 17 0 32))) [(.cat [(.q 10)]),(.sl 5 0 1 1)] .any
(.df (.call 56 [(.row 32 [(.q 9)])]) [(.row 3)] (.sl 32)
(.df (.bin .quo 3) [(.q 8),(.i 2)] .one
(.again 0 [(.q 20),(.cat [(.q 19)]),(.cat [(.q 10),(.q 18)])])))))))
(.df (.bin .add 3) [(.q 8),(.i 1)] .one
(.df (.rlen 32) [(.cat [(.q 9)])] .one
(.df (.bin .lss 3) [(.q 15),(.q 16)] .one
(.br 17 []
(.df (.bin .add 3) [(.q 8),(.i 1)] .one
(.df (.rbnd 32) [(.cat [(.q 9)]),(.q 18)] .one
(.df (.relems 32 0 32) [(.cat [(.q 9)]),(.q 18)] (.ag 32)
(.df (.dR 32 32 (.own 32 (PN 20 0 32))) [(.cat [(.q 10)]),(.sl 5 0 1 1)] .any
(.df (.call 56 [(.row 32 [(.q 9)])]) [(.row 3)] (.sl 32)
(.df (.bin .quo 3) [(.q 8),(.i 2)] .one
(.again 0 [(.q 23),(.cat [(.q 22)]),(.cat [(.q 10),(.q 21)])])))))))
(.df (.call 56 [(.row 32 [(.q 9)])]) [(.row 3)] (.sl 32)
(.df (.bin .quo 3) [(.q 8),(.i 2)] .one
(.again 0 [(.q 19),(.cat [(.q 18)]),(.cat [(.q 10)])]))))))))))
(.ret (.t [(.row 4),(.i 0)]) [none,none,none,none,(some ⟨[(.q 10)],27,(.row 32)⟩)] []))))))))))))))
def uj:List SX.V:=[.x 0 [],.x 1 []]
def wJ:jl:=⟨fun f=>true,[⟨28,5,[(.s 1,.one),(.s 7,.ext 32),(.s 6,.row 32 27)]⟩],2,100⟩
theorem x8(K A:PZ):PY (Km K A) wJ 28 Tryz.f28 uj [.one,.one]=np:=by kernel_rfl
theorem KM{a b:Nat}(h:b≤a)(ha:a<4611686018427387904):aR .sub (.int .i64 (a:Int)) (.int .i64 (b:Int))=some (.int .i64 ((a-b:Nat):Int)):=by
 simp only [aR,mm,if_true]
 rw [wrap_i64 (by omega) (by omega)]
 congr 2
 omega
theorem Ag(ps:List Pb)(at_:Nat)(A:Option Addr)(n c:Nat)(w:World)(hr:Rd w 1 A n (ps.map (·.1)))(hc:n≤c)(hat:at_<ps.length)(hl:ps.length≤65536)(hp:∀ p∈ps,SX.Arg.rd w ⟨p.1,1,p.2.flatMap c8⟩)(hpl:∀ p∈ps,p.2.length≤17592186044416):Calls Tryz.prog 28 #[.slice A n c,.int .i64 (at_:Int)] w fun e w'=>Below w.heap.size w w'∧∃ hdr,e=.returned (.tuple #[hdr,.int .i64 0])∧az w w' [] hdr 32 (aT (cg (ps.map gF) at_)):=by
 refine PK (x8 (KW w) P0) [.slice A n c,.int .i64 (at_:Int)] (Bg _ _) Tryz.func28 ?_ ?_
 ·exact fun W hW v z xs h=>h W hW
 have hln:ps.length=n:=by have:=hr.1;rw [List.length_map]at this;omega
 have hK1:KW w (.slice A n c) 1 (ps.map (·.1)):=fun W hW=>⟨hr.aD hW,hc⟩
 have hKp:∀ p∈ps,KW w p.1 1 (p.2.flatMap c8):=fun p hm=>EQ (hp p hm)
 unfold np
 refine PF (.int .i64 (n:Int)) ?_
 refine PF (.bool (decide ((n:Int)>65536))) ?_
 refine PH (decide ((n:Int)>65536)) (fun h=>absurd h (by simp;omega)) (fun _=>?_)
 refine PF (.bool (decide ((at_:Int)<0))) ?_
 refine PH (decide ((at_:Int)<0)) (fun h=>absurd (of_decide_eq_true h) (by omega)) (fun _=>?_)
 refine PF (.int .i64 (n:Int)) ?_
 refine PF (.bool (decide ((at_:Int)≥(n:Int)))) ?_
 refine PH (decide ((at_:Int)≥(n:Int))) (fun h=>absurd h (by simp;omega)) (fun _=>?_)
 refine aK (.agg (aT (ps.map gF)).toArray) (fun α=>⟨[⟨.slice A n c,1,ps.map (·.1)⟩],⟨by kernel_rfl,rfl,cast (by kernel_rfl) hK1,trivial⟩,.inr ⟨rfl,_,ps,rfl,hKp,by omega,hpl,rfl⟩,af rfl⟩) (kR _) ?_
 have hml:(ps.map gF).length=n:=by rw [List.length_map,hln]
 generalize ps.map gF=ds at *
 refine bC (fun xs=>∃ (l:List Dg) (i:Nat) (acc:List Dg),xs=[.int .i64 (i:Int),.agg (aT l).toArray,.agg (aT acc).toArray]∧0<l.length∧i<l.length∧acc.length+l.length≤n+1∧acc++cg l i=cg ds at_) (fun xs=>match xs with|_::.agg cs::_=>cs.toList.length|_=>0) (fun α=>⟨ds,at_,[],Eq.trans (b:=[.int .i64 (at_:Int),.agg ([Value.agg (aT ds).toArray].flatMap aa).toArray,.agg #[]]) (by kernel_rfl) (by simp [aa,aT]),by omega,by omega,by simp;omega,rfl⟩) ?_
 rintro xs-⟨l,i,acc,rfl,hl0,hil,hl1,hI⟩
 have hu:=iB l
 refine PG (.int .i64 (l.length:Int)) (fun α=>m4 (f:=ah) (l:=l) (fun _=>rfl) (by decide) (bq (j:=9) (by kernel_rfl))) ?_
 refine PJ (.bool (decide (1<l.length))) (fh l.length 1) ?_
 refine PH (decide (1<l.length)) (fun h2=>?_) (fun h2=>?_)
 ·have h2:1<l.length:=by simpa using h2
  have hxo:=JF i
  rw [ja (by omega)]at hI
  refine PJ (.int .i64 ((i % 2:Nat):Int)) (FI (a:=i) (by omega)) ?_
  refine PF (.bool (((i % 2:Nat):Int) == 1)) ?_
  refine PH (((i % 2:Nat):Int) == 1) (fun h3=>?_) (fun h3=>?_)
  ·have h3:i % 2=1:=by simp at h3;omega
   rw [if_neg (by omega)]at hxo
   refine PJ (.int .i64 ((i-1:Nat):Int)) (KM (a:=i) (b:=1) (by omega) (by omega)) ?_
   obtain⟨x,hx⟩:∃ x,l[i-1]?=some x:=⟨_,List.getElem?_eq_getElem (by omega)⟩
   rw [hxo,hx]at hI
   refine PG (.bool true) (fun α=>gz (k:=i-1) (f:=ah) (l:=l) (fun _=>rfl) (by decide) (bq (j:=9) (by kernel_rfl)) (by kernel_rfl) (by omega)) ?_
   refine PG (ec x) (fun α=>jG (k:=i-1) (f:=ah) (l:=l) (fun _=>rfl) (by decide) (bq (j:=9) (by kernel_rfl)) (by kernel_rfl) hx) ?_
   refine PG (.agg ([x].flatMap ah).toArray) (fun α=>av (f:=ah) (l1:=acc) (l2:=[x]) (fun _=>rfl) bO (by decide) (bq (j:=10) (by kernel_rfl)) (aG (by kernel_rfl)) (by simp;omega) (by simp;omega)) ?_
   refine aK (.agg (aT (gr l)).toArray) (fun α=>⟨[⟨(α 3).h,32,aT l⟩],⟨Eq.trans (dT (α 3).h 32 (aT l)) (by kernel_rfl),trivial⟩,.inl ⟨rfl,_,l,rfl,by omega,rfl⟩,af rfl⟩) (kR _) ?_
   refine PJ (.int .i64 ((i / 2:Nat):Int)) (gO (a:=i) (by omega)) ?_
   exact bg rfl (fun α=>⟨gr l,i / 2,acc++[x],Eq.trans (b:=[.int .i64 ((i / 2:Nat):Int),.agg ([Value.agg (aT (gr l)).toArray].flatMap aa).toArray,.agg ([Value.agg (aT acc).toArray,.agg ([x].flatMap ah).toArray].flatMap aa).toArray]) (by kernel_rfl) (by simp [aa,aT]),by omega,by omega,by simp;omega,by rw [← hI];simp⟩) (fun α=>cast (by kernel_rfl) (show([Value.agg (aT (gr l)).toArray].flatMap aa).length<(aT l).length by simp [aa,dv];omega))
  have h3:i % 2=0:=by simp at h3;omega
  rw [if_pos h3]at hxo
  refine PJ (.int .i64 ((i+1:Nat):Int)) (db (a:=i) (b:=1) (d:=i+1) rfl (by omega)) ?_
  refine PG (.int .i64 (l.length:Int)) (fun α=>m4 (f:=ah) (l:=l) (fun _=>rfl) (by decide) (bq (j:=9) (by kernel_rfl))) ?_
  refine PJ (.bool (decide (i+1<l.length))) (cW (i+1) l.length) ?_
  refine PH (decide (i+1<l.length)) (fun h4=>?_) (fun h4=>?_)
  ·have h4:i+1<l.length:=by simpa using h4
   refine PJ (.int .i64 ((i+1:Nat):Int)) (db (a:=i) (b:=1) (d:=i+1) rfl (by omega)) ?_
   obtain⟨x,hx⟩:∃ x,l[i+1]?=some x:=⟨_,List.getElem?_eq_getElem (by omega)⟩
   rw [hxo,hx]at hI
   refine PG (.bool true) (fun α=>gz (k:=i+1) (f:=ah) (l:=l) (fun _=>rfl) (by decide) (bq (j:=9) (by kernel_rfl)) (by kernel_rfl) (by omega)) ?_
   refine PG (ec x) (fun α=>jG (k:=i+1) (f:=ah) (l:=l) (fun _=>rfl) (by decide) (bq (j:=9) (by kernel_rfl)) (by kernel_rfl) hx) ?_
   refine PG (.agg ([x].flatMap ah).toArray) (fun α=>av (f:=ah) (l1:=acc) (l2:=[x]) (fun _=>rfl) bO (by decide) (bq (j:=10) (by kernel_rfl)) (aG (by kernel_rfl)) (by simp;omega) (by simp;omega)) ?_
   refine aK (.agg (aT (gr l)).toArray) (fun α=>⟨[⟨(α 3).h,32,aT l⟩],⟨Eq.trans (dT (α 3).h 32 (aT l)) (by kernel_rfl),trivial⟩,.inl ⟨rfl,_,l,rfl,by omega,rfl⟩,af rfl⟩) (kR _) ?_
   refine PJ (.int .i64 ((i / 2:Nat):Int)) (gO (a:=i) (by omega)) ?_
   exact bg rfl (fun α=>⟨gr l,i / 2,acc++[x],Eq.trans (b:=[.int .i64 ((i / 2:Nat):Int),.agg ([Value.agg (aT (gr l)).toArray].flatMap aa).toArray,.agg ([Value.agg (aT acc).toArray,.agg ([x].flatMap ah).toArray].flatMap aa).toArray]) (by kernel_rfl) (by simp [aa,aT]),by omega,by omega,by simp;omega,by rw [← hI];simp⟩) (fun α=>cast (by kernel_rfl) (show([Value.agg (aT (gr l)).toArray].flatMap aa).length<(aT l).length by simp [aa,dv];omega))
  have h4:¬ i+1<l.length:=by simpa using h4
  rw [hxo,List.getElem?_eq_none (by omega)]at hI
  refine aK (.agg (aT (gr l)).toArray) (fun α=>⟨[⟨(α 3).h,32,aT l⟩],⟨Eq.trans (dT (α 3).h 32 (aT l)) (by kernel_rfl),trivial⟩,.inl ⟨rfl,_,l,rfl,by omega,rfl⟩,af rfl⟩) (kR _) ?_
  refine PJ (.int .i64 ((i / 2:Nat):Int)) (gO (a:=i) (by omega)) ?_
  exact bg rfl (fun α=>⟨gr l,i / 2,acc,Eq.trans (b:=[.int .i64 ((i / 2:Nat):Int),.agg ([Value.agg (aT (gr l)).toArray].flatMap aa).toArray,.agg ([Value.agg (aT acc).toArray].flatMap aa).toArray]) (by kernel_rfl) (by simp [aa,aT]),by omega,by omega,by omega,by rw [← hI];simp⟩) (fun α=>cast (by kernel_rfl) (show([Value.agg (aT (gr l)).toArray].flatMap aa).length<(aT l).length by simp [aa,dv];omega))
 have h2:¬ 1<l.length:=by simpa using h2
 have hi0:i=0:=by omega
 subst hi0
 rw [fJ (by omega),show(0^^^1:Nat)=1 from rfl,List.getElem?_eq_none (by omega),show(none:Option Dg).toList=[] from rfl,List.append_nil]at hI
 exact aY fun α W _ hrow hS=>⟨hS.below,_,by kernel_rfl,az.row hS (n:=4) (b:=(⟨[(.x 10 [])],27,(.row 32)⟩:ae)) (by kernel_rfl) rfl (hrow 4 _ (by kernel_rfl)) (Eq.trans (b:=[Value.agg (aT acc).toArray].flatMap aa) (by kernel_rfl) (by rw [← hI];simp [aa]))⟩
end Go.Proofs.YtidekfgkpindbaaGreatDoor
