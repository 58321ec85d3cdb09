/-
  The statement 'EditsDiff': for every input the law returns true, and each argument reads as it read before. No condition.
-/
import Derived.Test.YtnaooclbphaelaaDY6
import Derived.Test.YtnaooclbphaelaaDY5
import Derived.DeepKeys3
import Derived.Test.YtnaooclbphaelaaDY1
import Derived.DataElems
set_option linter.unusedSimpArgs false
set_option linter.unusedVariables false
namespace Go.Proofs.Ytnaooclbphaelaa
open Go Go.RowKit
theorem K_ofD{C:SX.Cx}{v:Value}{y:SX.Arg}(hv:v=y.v)(h:C.K y.v y.sz y.cells):C.K v y.sz y.cells:=by subst hv;exact h
theorem hd_drop{β:Type}{l:List β}{x:β}(h:l[0]?=some x):l=x::l.drop 1:=by
 cases l with
 | nil=>cases h
 | cons y l=>cases h;rfl
theorem mrg_rmD{a b:List Sg}{x:Sg}(hx:a[0]?=some x)(h:∀ y,b[0]?=some y→x.id<y.id):mrg a b=(mrg (a.drop 1) b).map ([remP x]++·):=by
 conv=>lhs;rw [hd_drop hx]
 exact mrg_rm h
theorem mrg_inD{a b:List Sg}{y:Sg}(hy:b[0]?=some y)(h:∀ x,a[0]?=some x→y.id<x.id):mrg a b=(mrg a (b.drop 1)).map ([insP y]++·):=by
 conv=>lhs;rw [hd_drop hy]
 exact mrg_in h
theorem mrg_noD{a b:List Sg}{x y:Sg}(hx:a[0]?=some x)(hy:b[0]?=some y)(h:x.id=y.id)(hk:x.kind≠y.kind):mrg a b=none:=by
 rw [hd_drop hx,hd_drop hy]
 exact mrg_no h hk
theorem mrg_chD{a b:List Sg}{x y:Sg}(hx:a[0]?=some x)(hy:b[0]?=some y)(h:x.id=y.id)(hk:x.kind=y.kind):mrg a b=(mrg (a.drop 1) (b.drop 1)).map (chP x y++·):=by
 conv=>lhs;rw [hd_drop hx,hd_drop hy]
 exact mrg_ch h hk
theorem mrg_step{M:Option (List Pt)}{a b a2 b2:List Sg}{acc p:List Pt}(h:M=(mrg a b).map (acc++·))(h2:mrg a b=(mrg a2 b2).map (p++·)):M=(mrg a2 b2).map ((acc++p)++·):=by
 rw [h,h2,Option.map_map]
 congr 1
 funext l
 simp [Function.comp]
theorem no_head{β:Type}{l:List β}(h:l.length=0){x:β}(hx:l[0]?=some x):False:=by
 have:=(List.getElem?_eq_some_iff.1 hx).1
 omega
abbrev Hd:=Option Addr×Nat×Nat
def Hd.v(h:Hd):Value:=.slice h.1 h.2.1 h.2.2
theorem num_app(first:Int)(needs:List Int)(k:Nat)(l m:List Pt):num first needs k (l++m)=num first needs k l++num first needs (k+l.length) m:=by
 induction l generalizing k with
 | nil=>rfl
 | cons p l ih =>
  simp only [List.cons_append,num,ih,List.length_cons]
  rw [show k+1+l.length=k+(l.length+1) by omega]
def doneL(first:Int)(needs:List Int)(l:List Pt)(hs:List Hd):List Ph:=(num first needs 0 (l.take hs.length)).zip hs++nilL (l.drop hs.length)
theorem doneL_nil(first:Int)(needs:List Int)(l:List Pt):doneL first needs l []=nilL l:=rfl
theorem doneL_pre{first:Int}{needs:List Int}{l:List Pt}{hs:List Hd}(h:hs.length≤l.length):((num first needs 0 (l.take hs.length)).zip hs).length=hs.length:=by
 rw [List.length_zip,num_len,List.length_take];omega
theorem doneL_len{first:Int}{needs:List Int}{l:List Pt}{hs:List Hd}(h:hs.length≤l.length):(doneL first needs l hs).length=l.length:=by
 unfold doneL
 rw [List.length_append,doneL_pre h,nilL,List.length_map,List.length_drop];omega
theorem doneL_at{first:Int}{needs:List Int}{l:List Pt}{hs:List Hd}{p:Pt}(h:l[hs.length]?=some p):(doneL first needs l hs)[hs.length]?=some (nilP p):=by
 have hl:=(List.getElem?_eq_some_iff.1 h).1
 unfold doneL
 rw [List.getElem?_append_right (by rw [doneL_pre (by omega)];exact Nat.le_refl _),doneL_pre (by omega),Nat.sub_self,nilL,List.getElem?_map,List.getElem?_drop,Nat.add_zero,h]
 rfl
theorem doneL_set{first:Int}{needs:List Int}{l:List Pt}{hs:List Hd}{p:Pt}(h:l[hs.length]?=some p)(z:Hd)(q:Ph):((doneL first needs l hs).set hs.length q).set hs.length ({p with id:=first+(hs.length:Int),needs:=needs},z)=doneL first needs l (hs++[z]):=by
 have hl:=(List.getElem?_eq_some_iff.1 h).1
 have e1:l.drop hs.length=p::l.drop (hs.length+1):=by rw [List.drop_eq_getElem_cons hl,(List.getElem?_eq_some_iff.1 h).2]
 have e2:l.take (hs.length+1)=l.take hs.length++[p]:=by rw [List.take_add_one,h];rfl
 have e3:(l.take hs.length).length=hs.length:=by rw [List.length_take];omega
 rw [List.set_set]
 unfold doneL
 rw [e1,List.length_append,List.length_singleton,e2,num_app,e3,List.zip_append (by rw [num_len,e3]),List.set_append_right _ _ (by rw [doneL_pre (by omega)];exact Nat.le_refl _),doneL_pre (by omega),Nat.sub_self]
 simp [nilL,num]
theorem doneL_all{first:Int}{needs:List Int}{l:List Pt}{hs:List Hd}(h:hs.length=l.length):doneL first needs l hs=(num first needs 0 l).zip hs:=by
 unfold doneL
 rw [h,List.take_length,List.drop_length]
 simp [nilL]
def cells2(p:Int×Int):List Value:=[.int .i64 p.1,.int .i64 p.2]
theorem cells2_inj(a b:Int×Int)(h:cells2 a=cells2 b):a=b:=by
 obtain⟨a1,a2⟩:=a;obtain⟨b1,b2⟩:=b
 simpa [cells2]using h
theorem span_iff{x y:Sg}:setF zeroSg 9 x=setF zeroSg 9 y↔(x.fn,x.fd)=(y.fn,y.fd)∧(x.tn,x.td)=(y.tn,y.td):=by
 simp [setF,zeroSg,and_assoc]
theorem nilL_app(l m:List Pt):nilL (l++m)=nilL l++nilL m:=by simp [nilL]
def KDf(A:Option Addr)(n c:Nat)(a:List Sg)(B:Option Addr)(m d:Nat)(b:List Sg)(D:Option Addr)(k e:Nat)(needs:List Int)(s:Value)(z:Nat)(xs:List Value):Prop :=
 (s=.slice A n c∧z=14∧xs=sgsL a)∨(s=.slice B m d∧z=14∧xs=sgsL b)∨(s=.slice D k e∧z=1∧xs=intsL needs)
def RnI(K:Value→Nat→List Value→Prop)(f:FuncId)(xs:List SX.Arg)(Q:Value→List SX.Arg→Prop):Prop:=f=43∧∃ (u:Value) (l:List Int),xs=[⟨u,1,intsL l⟩]∧l.length≤1000000∧∀ A n c,Q (.slice A n c) [⟨.slice A n c,1,intsL l⟩]
def RD4(f:FuncId)(xs:List SX.Arg)(v:Value):Prop :=
 (f=14∧∃ (u:Value) (ss:List Sg),xs=[⟨u,14,sgsL ss⟩]∧ss.length≤9223372036854775807∧v=.int .i64 (chkS ss))
def shpD4:FuncId→Option SX.Sh:=fun f=>if f=14 then some .one else none
noncomputable def cxD4(nb:Nat)(K A:Value→Nat→List Value→Prop):SX.Cx:={ nsh:=fun f=>if f=43 then some .one else none,Rn:=RnI,nb:=nb,trm:=true,tl:=[42,41],cut:=[(7,1000001,false),(8,1000129,false),(28,8935714284162,false),(37,36600681612927618,true),(28,8935714284225,true),(30,571885651190402,true),(32,36600681613185730,false)],P:=Try.prog,R:=fun _=>RD4,shp:=shpD4,K:=K,A:=A }
theorem okD4(nb:Nat)(K A:Value→Nat→List Value→Prop):(cxD4 nb K A).Ok:=by
 refine SX.Cx.ok_nd (fun _=>rfl) ?_ fun f sh hs K xs Q W h hrd hK=>?_
 case refine_2 =>
  obtain⟨rfl,u,l,rfl,hl,hQ⟩:=h
  have hs:some SX.Sh.one=some sh:=hs
  cases hs
  obtain⟨A,n,c,rfl,hr,hc,hn⟩:=ints_arg (hrd ⟨u,1,intsL l⟩ (by simp))
  refine(cloneI_any l A n c W hr hc (by omega)).mono fun e w' ⟨h1,hdr,h2,⟨A2,n2,c2,h3,_⟩,h4,h5⟩=>?_
  subst h3
  refine⟨h1,_,_,h2,rfl,hQ A2 n2 c2,fun y hy=>?_⟩
  obtain rfl:y=⟨.slice A2 n2 c2,1,intsL l⟩:=by simpa using hy
  exact⟨h4,h5.resolve_right fun⟨y,hy,_⟩=>nomatch hy⟩
 intro K f xs v W hR hrd hKf
 rcases hR with ⟨rfl,u,ss,rfl,hb,rfl⟩
 obtain⟨A,n,c,rfl,h2,h3,h4⟩:=sgs_arg (hrd ⟨u,14,sgsL ss⟩ (by simp))
 exact(echeck_any ss A n c W h2 (by omega) h3).mono fun e w' h=>SX.plainOk rfl h
def tree_diff:SX.Tree :=
(.df (.call 14 [(.ext 14)]) [(.q 0)] .one
(.df (.call 14 [(.ext 14)]) [(.q 1)] .one
(.df (.bin .neq 31) [(.q 4),(.i 0)] .one
(.br 6 []
(.df (.bin .neq 31) [(.q 4),(.i 0)] .one
(.br 7 []
(.ret (.t [(.k (.slice none 0 0)),(.q 4)]) [none] []) (.bad 70 [])))
(.df (.bin .neq 31) [(.q 5),(.i 0)] .one
(.br 7 []
(.df (.bin .neq 31) [(.q 5),(.i 0)] .one
(.br 8 []
(.ret (.t [(.k (.slice none 0 0)),(.q 5)]) [none] []) (.bad 70 [])))
(.df (.len false) [(.q 3)] .one
(.df (.bin .gtr 3) [(.q 8),(.i 32)] .one
(.br 9 []
(.ret (.t [(.k (.slice none 0 0)),(.i 2)]) [none] [])
(.df (.len false) [(.q 3)] .one
(.loop [(.i 0),(.i 0),(.cat [])] [.one,.one,.any]
(.df (.bin .lss 3) [(.q 11),(.q 10)] .one
(.br 14 []
(.df .bnd [(.q 3),(.q 11)] .one
(.df (.elem 1 0) [(.q 3),(.q 11)] .one
(.df (.bin .leq 3) [(.q 16),(.q 12)] .one
(.br 17 []
(.ret (.t [(.k (.slice none 0 0)),(.i 360)]) [none,none,none,none,none] [])
(.df (.bin .geq 3) [(.q 16),(.q 2)] .one
(.br 18 []
(.ret (.t [(.k (.slice none 0 0)),(.i 360)]) [none,none,none,none,none] [])
(.df (.bin .add 3) [(.q 11),(.i 1)] .one
(.again 0 [(.q 19),(.q 16),(.cat [(.q 13)])]))))))))
(.df (.bin .geq 3) [(.q 2),(.i 1)] .one
(.br 15 []
(.df (.bin .leq 3) [(.q 2),(.i 1048576)] .one
(.df .not [(.q 16)] .one
(.br 17 []
(.ret (.t [(.k (.slice none 0 0)),(.i 360)]) [none,none,none,none,none] [])
(.df (.kext 14) [(.q 0)] .any
(.df (.kext 14) [(.q 1)] .any
(.loop [(.cat [(.q 18)]),(.cat [(.q 19)]),(.cat [(.q 13)])] [.any,.any,.any]
(.df (.rlen 14) [(.cat [(.q 20)])] .one
(.df (.bin .gtr 3) [(.q 23),(.i 0)] .one
(.br 24 []
(.df (.rlen 14) [(.cat [(.q 21)])] .one
(.df (.bin .eql 3) [(.q 25),(.i 0)] .one
(.br 26 []
(.df (.rbnd 14) [(.cat [(.q 20)]),(.i 0)] .one
(.df (.rbnd 14) [(.cat [(.q 20)]),(.i 0)] .one
(.df (.relem 14 0) [(.cat [(.q 20)]),(.i 0)] .one
(.df (.app 19 168 (.own 19 [(.i 0),(.i 3),(.q 29),(.i 0),(.i 0),(.i 0),(.i 0),(.i 0),(.i 0),(.i 0),(.i 0),(.i 0),(.i 0),(.i 0),(.i 0),(.i 0),(.i 0),(.i 0),(.k (.slice none 0 0))])) [(.cat [(.q 22)]),(.sl 10 0 1 1)] .any
(.df (.slcx 14 true false) [(.cat [(.q 20)]),(.i 1)] .any
(.again 1 [(.cat [(.q 31)]),(.cat [(.q 21)]),(.cat [(.q 22),(.q 30)])]))))))
(.df (.rlen 14) [(.cat [(.q 20)])] .one
(.df (.bin .gtr 3) [(.q 27),(.i 0)] .one
(.br 28 []
(.df (.rbnd 14) [(.cat [(.q 20)]),(.i 0)] .one
(.df (.rbnd 14) [(.cat [(.q 20)]),(.i 0)] .one
(.df (.relem 14 0) [(.cat [(.q 20)]),(.i 0)] .one
(.df (.rbnd 14) [(.cat [(.q 21)]),(.i 0)] .one
(.df (.rbnd 14) [(.cat [(.q 21)]),(.i 0)] .one
(.df (.relem 14 0) [(.cat [(.q 21)]),(.i 0)] .one
(.df (.bin .lss 3) [(.q 31),(.q 34)] .one
(.br 35 []
(.df (.rbnd 14) [(.cat [(.q 20)]),(.i 0)] .one
(.df (.rbnd 14) [(.cat [(.q 20)]),(.i 0)] .one
(.df (.relem 14 0) [(.cat [(.q 20)]),(.i 0)] .one
(.df (.app 19 168 (.own 19 [(.i 0),(.i 3),(.q 38),(.i 0),(.i 0),(.i 0),(.i 0),(.i 0),(.i 0),(.i 0),(.i 0),(.i 0),(.i 0),(.i 0),(.i 0),(.i 0),(.i 0),(.i 0),(.k (.slice none 0 0))])) [(.cat [(.q 22)]),(.sl 10 0 1 1)] .any
(.df (.slcx 14 true false) [(.cat [(.q 20)]),(.i 1)] .any
(.again 1 [(.cat [(.q 40)]),(.cat [(.q 21)]),(.cat [(.q 22),(.q 39)])]))))))
(.df (.rlen 14) [(.cat [(.q 20)])] .one
(.df (.bin .eql 3) [(.q 36),(.i 0)] .one
(.br 37 [] (.bad 70 [])
(.df (.rbnd 14) [(.cat [(.q 21)]),(.i 0)] .one
(.df (.rbnd 14) [(.cat [(.q 21)]),(.i 0)] .one
(.df (.relem 14 0) [(.cat [(.q 21)]),(.i 0)] .one
(.df (.rbnd 14) [(.cat [(.q 20)]),(.i 0)] .one
(.df (.rbnd 14) [(.cat [(.q 20)]),(.i 0)] .one
(.df (.relem 14 0) [(.cat [(.q 20)]),(.i 0)] .one
(.df (.bin .lss 3) [(.q 40),(.q 43)] .one
(.br 44 []
(.df (.rbnd 14) [(.cat [(.q 21)]),(.i 0)] .one
(.df (.rbnd 14) [(.cat [(.q 21)]),(.i 0)] .one
(.df (.relem 14 0) [(.cat [(.q 21)]),(.i 0)] .one
(.df (.rbnd 14) [(.cat [(.q 21)]),(.i 0)] .one
(.df (.relems 14 0 14) [(.cat [(.q 21)]),(.i 0)] (.ag 14)
(.df (.app 19 168 (.own 19 [(.i 0),(.i 2),(.q 47),(.i 0),(.x 49 [0]),(.x 49 [1]),(.x 49 [2]),(.x 49 [3]),(.x 49 [4]),(.x 49 [5]),(.x 49 [6]),(.x 49 [7]),(.x 49 [8]),(.x 49 [9]),(.x 49 [10]),(.x 49 [11]),(.x 49 [12]),(.x 49 [13]),(.k (.slice none 0 0))])) [(.cat [(.q 22)]),(.sl 19 0 1 1)] .any
(.df (.slcx 14 true false) [(.cat [(.q 21)]),(.i 1)] .any
(.again 1 [(.cat [(.q 20)]),(.cat [(.q 51)]),(.cat [(.q 22),(.q 50)])]))))))))
(.df (.rbnd 14) [(.cat [(.q 20)]),(.i 0)] .one
(.df (.rbnd 14) [(.cat [(.q 20)]),(.i 0)] .one
(.df (.relem 14 4) [(.cat [(.q 20)]),(.i 0)] .one
(.df (.rbnd 14) [(.cat [(.q 21)]),(.i 0)] .one
(.df (.rbnd 14) [(.cat [(.q 21)]),(.i 0)] .one
(.df (.relem 14 4) [(.cat [(.q 21)]),(.i 0)] .one
(.df (.bin .neq 3) [(.q 47),(.q 50)] .one
(.br 51 []
(.ret (.t [(.k (.slice none 0 0)),(.i 360)]) (List.replicate 10 none) [])
(.df (.rbnd 14) [(.cat [(.q 20)]),(.i 0)] .one
(.df (.relems 14 0 14) [(.cat [(.q 20)]),(.i 0)] (.ag 14)
(.df (.rbnd 14) [(.cat [(.q 21)]),(.i 0)] .one
(.df (.relems 14 0 14) [(.cat [(.q 21)]),(.i 0)] (.ag 14)
(.loop [(.i 0),(.cat [(.q 22)])] [.one,.any]
(.df (.bin .lss 3) [(.q 56),(.i 8)] .one
(.br 58 []
(.sp 56 [] [
(.df (.bin .eql 3) [(.x 53 [1]),(.x 55 [1])] .one
(.br 59 []
(.again 2 [(.i 1),(.cat [(.q 57)])])
(.df (.app 19 168 (.own 19 [(.i 0),(.i 1),(.x 53 [0]),(.i 1),(.i 0),(.x 55 [1]),(.i 0),(.i 0),(.i 0),(.i 0),(.i 0),(.i 0),(.i 0),(.i 0),(.i 0),(.i 0),(.i 0),(.i 0),(.k (.slice none 0 0))])) [(.cat [(.q 57)]),(.sl 20 0 1 1)] .any
(.again 2 [(.i 1),(.cat [(.q 57),(.q 60)])])))),
(.df (.bin .eql 3) [(.x 53 [2]),(.x 55 [2])] .one
(.br 59 []
(.again 2 [(.i 2),(.cat [(.q 57)])])
(.df (.app 19 168 (.own 19 [(.i 0),(.i 1),(.x 53 [0]),(.i 2),(.i 0),(.i 0),(.x 55 [2]),(.i 0),(.i 0),(.i 0),(.i 0),(.i 0),(.i 0),(.i 0),(.i 0),(.i 0),(.i 0),(.i 0),(.k (.slice none 0 0))])) [(.cat [(.q 57)]),(.sl 20 0 1 1)] .any
(.again 2 [(.i 2),(.cat [(.q 57),(.q 60)])])))),
(.df (.bin .eql 3) [(.x 53 [3]),(.x 55 [3])] .one
(.br 59 []
(.again 2 [(.i 3),(.cat [(.q 57)])])
(.df (.app 19 168 (.own 19 [(.i 0),(.i 1),(.x 53 [0]),(.i 3),(.i 0),(.i 0),(.i 0),(.x 55 [3]),(.i 0),(.i 0),(.i 0),(.i 0),(.i 0),(.i 0),(.i 0),(.i 0),(.i 0),(.i 0),(.k (.slice none 0 0))])) [(.cat [(.q 57)]),(.sl 20 0 1 1)] .any
(.again 2 [(.i 3),(.cat [(.q 57),(.q 60)])])))),
(.df (.bin .eql 3) [(.x 53 [5]),(.x 55 [5])] .one
(.br 59 []
(.again 2 [(.i 4),(.cat [(.q 57)])])
(.df (.app 19 168 (.own 19 [(.i 0),(.i 1),(.x 53 [0]),(.i 4),(.i 0),(.i 0),(.i 0),(.i 0),(.i 0),(.x 55 [5]),(.i 0),(.i 0),(.i 0),(.i 0),(.i 0),(.i 0),(.i 0),(.i 0),(.k (.slice none 0 0))])) [(.cat [(.q 57)]),(.sl 20 0 1 1)] .any
(.again 2 [(.i 4),(.cat [(.q 57),(.q 60)])])))),
(.df (.bin .eql 3) [(.x 53 [6]),(.x 55 [6])] .one
(.br 59 []
(.again 2 [(.i 5),(.cat [(.q 57)])])
(.df (.app 19 168 (.own 19 [(.i 0),(.i 1),(.x 53 [0]),(.i 5),(.i 0),(.i 0),(.i 0),(.i 0),(.i 0),(.i 0),(.x 55 [6]),(.i 0),(.i 0),(.i 0),(.i 0),(.i 0),(.i 0),(.i 0),(.k (.slice none 0 0))])) [(.cat [(.q 57)]),(.sl 20 0 1 1)] .any
(.again 2 [(.i 5),(.cat [(.q 57),(.q 60)])])))),
(.df (.bin .eql 3) [(.x 53 [7]),(.x 55 [7])] .one
(.br 59 []
(.again 2 [(.i 6),(.cat [(.q 57)])])
(.df (.app 19 168 (.own 19 [(.i 0),(.i 1),(.x 53 [0]),(.i 6),(.i 0),(.i 0),(.i 0),(.i 0),(.i 0),(.i 0),(.i 0),(.x 55 [7]),(.i 0),(.i 0),(.i 0),(.i 0),(.i 0),(.i 0),(.k (.slice none 0 0))])) [(.cat [(.q 57)]),(.sl 20 0 1 1)] .any
(.again 2 [(.i 6),(.cat [(.q 57),(.q 60)])])))),
(.df (.bin .eql 3) [(.x 53 [8]),(.x 55 [8])] .one
(.br 59 []
(.again 2 [(.i 7),(.cat [(.q 57)])])
(.df (.app 19 168 (.own 19 [(.i 0),(.i 1),(.x 53 [0]),(.i 7),(.i 0),(.i 0),(.i 0),(.i 0),(.i 0),(.i 0),(.i 0),(.i 0),(.x 55 [8]),(.i 0),(.i 0),(.i 0),(.i 0),(.i 0),(.k (.slice none 0 0))])) [(.cat [(.q 57)]),(.sl 20 0 1 1)] .any
(.again 2 [(.i 7),(.cat [(.q 57),(.q 60)])])))),
(.df (.bin .eql 3) [(.x 53 [9]),(.x 55 [9])] .one
(.br 59 []
(.again 2 [(.i 8),(.cat [(.q 57)])])
(.df (.app 19 168 (.own 19 [(.i 0),(.i 1),(.x 53 [0]),(.i 8),(.i 0),(.i 0),(.i 0),(.i 0),(.i 0),(.i 0),(.i 0),(.i 0),(.i 0),(.x 55 [9]),(.i 0),(.i 0),(.i 0),(.i 0),(.k (.slice none 0 0))])) [(.cat [(.q 57)]),(.sl 20 0 1 1)] .any
(.again 2 [(.i 8),(.cat [(.q 57),(.q 60)])]))))])
(.df (.eqr true 2 [(.i .i64),(.i .i64)]) [(.x 53 [10]),(.x 53 [11]),(.x 55 [10]),(.x 55 [11])] .one
(.br 59 []
(.df (.app 19 168 (.own 19 [(.i 0),(.i 1),(.x 53 [0]),(.i 9),(.i 0),(.i 0),(.i 0),(.i 0),(.i 0),(.i 0),(.i 0),(.i 0),(.i 0),(.i 0),(.x 55 [10]),(.x 55 [11]),(.x 55 [12]),(.x 55 [13]),(.k (.slice none 0 0))])) [(.cat [(.q 57)]),(.sl 18 0 1 1)] .any
(.df (.slcx 14 true false) [(.cat [(.q 20)]),(.i 1)] .any
(.df (.slcx 14 true false) [(.cat [(.q 21)]),(.i 1)] .any
(.again 1 [(.cat [(.q 61)]),(.cat [(.q 62)]),(.cat [(.q 57),(.q 60)])]))))
(.df (.eqr true 2 [(.i .i64),(.i .i64)]) [(.x 53 [12]),(.x 53 [13]),(.x 55 [12]),(.x 55 [13])] .one
(.br 60 []
(.df (.app 19 168 (.own 19 [(.i 0),(.i 1),(.x 53 [0]),(.i 9),(.i 0),(.i 0),(.i 0),(.i 0),(.i 0),(.i 0),(.i 0),(.i 0),(.i 0),(.i 0),(.x 55 [10]),(.x 55 [11]),(.x 55 [12]),(.x 55 [13]),(.k (.slice none 0 0))])) [(.cat [(.q 57)]),(.sl 18 0 1 1)] .any
(.df (.slcx 14 true false) [(.cat [(.q 20)]),(.i 1)] .any
(.df (.slcx 14 true false) [(.cat [(.q 21)]),(.i 1)] .any
(.again 1 [(.cat [(.q 62)]),(.cat [(.q 63)]),(.cat [(.q 57),(.q 61)])]))))
(.df (.slcx 14 true false) [(.cat [(.q 20)]),(.i 1)] .any
(.df (.slcx 14 true false) [(.cat [(.q 21)]),(.i 1)] .any
(.again 1 [(.cat [(.q 61)]),(.cat [(.q 62)]),(.cat [(.q 57)])]))))))))))))))))))))))))))))))))))))))))) (.bad 70 [])))))))
(.df (.rlen 14) [(.cat [(.q 21)])] .one
(.df (.bin .gtr 3) [(.q 25),(.i 0)] .one
(.br 26 []
(.df (.rlen 14) [(.cat [(.q 21)])] .one
(.df (.bin .eql 3) [(.q 27),(.i 0)] .one
(.br 28 [] (.bad 70 [])
(.df (.rlen 14) [(.cat [(.q 20)])] .one
(.df (.bin .gtr 3) [(.q 29),(.i 0)] .one
(.br 30 [] (.bad 70 [])
(.df (.rlen 14) [(.cat [(.q 20)])] .one
(.df (.bin .eql 3) [(.q 31),(.i 0)] .one
(.br 32 []
(.df (.rbnd 14) [(.cat [(.q 21)]),(.i 0)] .one
(.df (.rbnd 14) [(.cat [(.q 21)]),(.i 0)] .one
(.df (.relem 14 0) [(.cat [(.q 21)]),(.i 0)] .one
(.df (.rbnd 14) [(.cat [(.q 21)]),(.i 0)] .one
(.df (.relems 14 0 14) [(.cat [(.q 21)]),(.i 0)] (.ag 14)
(.df (.app 19 168 (.own 19 [(.i 0),(.i 2),(.q 35),(.i 0),(.x 37 [0]),(.x 37 [1]),(.x 37 [2]),(.x 37 [3]),(.x 37 [4]),(.x 37 [5]),(.x 37 [6]),(.x 37 [7]),(.x 37 [8]),(.x 37 [9]),(.x 37 [10]),(.x 37 [11]),(.x 37 [12]),(.x 37 [13]),(.k (.slice none 0 0))])) [(.cat [(.q 22)]),(.sl 19 0 1 1)] .any
(.df (.slcx 14 true false) [(.cat [(.q 21)]),(.i 1)] .any
(.again 1 [(.cat [(.q 20)]),(.cat [(.q 39)]),(.cat [(.q 22),(.q 38)])])))))))) (.bad 70 []))))))))))
(.df (.rlen 19) [(.cat [(.q 22)])] .one
(.df (.bin .gtr 3) [(.q 27),(.i 512)] .one
(.br 28 []
(.ret (.t [(.k (.slice none 0 0)),(.i 2)]) (List.replicate 10 none) [])
(.df (.rlen 19) [(.cat [(.q 22)])] .one
(.df (.bin .add 3) [(.q 2),(.q 29)] .one
(.df (.bin .sub 3) [(.q 30),(.i 1)] .one
(.df (.bin .gtr 3) [(.q 31),(.i 1048576)] .one
(.br 32 []
(.ret (.t [(.k (.slice none 0 0)),(.i 2)]) (List.replicate 10 none) [])
(.df (.rlen 19) [(.cat [(.q 22)])] .one
(.loop [(.i 0),(.cat [(.q 22)])] [.one,.any]
(.df (.bin .lss 3) [(.q 34),(.q 33)] .one
(.br 36 []
(.df (.bin .add 3) [(.q 2),(.q 34)] .one
(.df (.callq 43 [(.ext 1)]) [(.q 3)] .one
(.df (.rbnd 19) [(.cat [(.q 35)]),(.q 34)] .one
(.df (.rbnd 19) [(.cat [(.q 35)]),(.q 34)] .one
(.df (.rset 19 0) [(.cat [(.q 35)]),(.q 34),(.q 37)] .any
(.df (.rbnd 19) [(.cat [(.q 35)]),(.q 34)] .one
(.df (.rbnd 19) [(.cat [(.q 35)]),(.q 34)] .one
(.df (.rset 19 18) [(.cat [(.q 41)]),(.q 34),(.q 38)] .any
(.df (.bin .add 3) [(.q 34),(.i 1)] .one
(.again 2 [(.q 45),(.cat [(.q 44)])]))))))))))
(.ret (.t [(.row 11),(.i 0)]) (List.replicate 11 none++[(some ⟨[(.q 35)],55,(.row 19)⟩)]) [])))))))))))))))))))))))))
(.ret (.t [(.k (.slice none 0 0)),(.i 360)]) [none,none,none,none,none] []))))))))))))))))
def args_diff:List SX.V:=[.x 0 [],.x 1 [],.x 2 [],.x 3 []]
set_option maxRecDepth 100000 in
theorem run_diff(nb:Nat)(K A:Value→Nat→List Value→Prop):(SX.run (cxD4 nb K A) ⟨fun f=>f != 43,[⟨17,8,[(.s 28,.one),(.s 10,.one),(.s 8,.row 19 55)]⟩,⟨17,16,[(.s 0,.ext 14),(.s 1,.ext 14),(.s 8,.row 19 55)]⟩,⟨93,1,[(.s 9,.one),(.c 12 0,.row 19 55)]⟩,⟨17,30,[(.s 147,.one),(.s 8,.row 19 55)]⟩],2,100⟩ 100000 0 (SX.door 17 Try.f17 args_diff [.one,.one,.one,.one]) [.code (Try.f17.body.getD .skip),.top Try.f17]).strip=tree_diff:=by kernel_rfl
set_option maxRecDepth 100000 in
set_option maxHeartbeats 4000000 in
theorem diff_any(a:List Sg)(A:Option Addr)(n c:Nat)(b:List Sg)(B:Option Addr)(m d:Nat)(first:Int)(needs:List Int)(D:Option Addr)(k e:Nat)(w:World)(hr:Rd w 14 A n (sgsL a))(hn:n≤9223372036854775807)(hc:n≤c)(hr2:Rd w 14 B m (sgsL b))(hn2:m≤9223372036854775807)(hc2:m≤d)(hr3:Rd w 1 D k (intsL needs))(hn3:k≤9223372036854775807)(hc3:k≤e):Calls Try.prog 17 #[.slice A n c,.slice B m d,.int .i64 first,.slice D k e] w fun e w'=>Below w.heap.size w w'∧∃ hdr hs,e=.returned (.tuple #[hdr,.int .i64 (diffR a b first needs).2])∧hs.length=(diffR a b first needs).1.length∧SX.SlRet w w' [] hdr 19 (phL ((diffR a b first needs).1.zip hs))∧∀ h∈hs,SX.SlRet w w' [] (Hd.v h) 1 (intsL needs):=by
 refine SX.calls_of_run (C:=cxD4 w.heap.size (KDf A n c a B m d b D k e needs) (KDf A n c a B m d b D k e needs)) (G:=⟨fun f=>f != 43,[⟨17,8,[(.s 28,.one),(.s 10,.one),(.s 8,.row 19 55)]⟩,⟨17,16,[(.s 0,.ext 14),(.s 1,.ext 14),(.s 8,.row 19 55)]⟩,⟨93,1,[(.s 9,.one),(.c 12 0,.row 19 55)]⟩,⟨17,30,[(.s 147,.one),(.s 8,.row 19 55)]⟩],2,100⟩) (args:=args_diff) (sh:=[.one,.one,.one,.one]) (ρ:=[.slice A n c,.slice B m d,.int .i64 first,.slice D k e]) 100000 tree_diff (okD4 w.heap.size _ _) Try.func17 rfl (run_diff _ _ _) (by kernel_rfl) (by kernel_rfl) (by kernel_rfl) ?_ ?_ (hN:=⟨rfl,Nat.le_refl _⟩)
 ·rintro W hW s sz cells (⟨rfl,rfl,rfl⟩|⟨rfl,rfl,rfl⟩|⟨rfl,rfl,rfl⟩)
  ·exact⟨hr.same0 hW,hc⟩
  ·exact⟨hr2.same0 hW,hc2⟩
  exact⟨hr3.same0 hW,hc3⟩
 have hA:=SX.rd_some hr
 have hln:a.length=n:=by have:=hr.1;rw [sgsL_len]at this;omega
 have hB:=SX.rd_some hr2
 have hlm:b.length=m:=by have:=hr2.1;rw [sgsL_len]at this;omega
 have hD:=SX.rd_some hr3
 have hlk:needs.length=k:=by have:=hr3.1;rw [intsL_len]at this;omega
 unfold tree_diff
 refine SX.E (.int .i64 ((chkS a))) (fun α=>⟨[⟨.slice A n c,14,sgsL a⟩],⟨by kernel_rfl,by kernel_rfl,.inl ⟨rfl,rfl,rfl⟩,trivial⟩,⟨rfl,_,a,rfl,by omega,rfl⟩,SX.noAli rfl⟩) ?_
 refine SX.E (.int .i64 ((chkS b))) (fun α=>⟨[⟨.slice B m d,14,sgsL b⟩],⟨by kernel_rfl,by kernel_rfl,.inr (.inl ⟨rfl,rfl,rfl⟩),trivial⟩,⟨rfl,_,b,rfl,by omega,rfl⟩,SX.noAli rfl⟩) ?_
 refine SX.D (.bool (((chkS a):Int) != 0)) ?_
 refine SX.B (((chkS a):Int) != 0) (fun h6=>?_) (fun h6=>?_)
 ·try simp only [NRM]at h6
  refine SX.D (.bool (((chkS a):Int) != 0)) ?_
  refine SX.B (((chkS a):Int) != 0) (fun h7=>?_) (fun h7=>absurd (by assumption) (show ¬ (((chkS a):Int)≠0) by simpa using h7))
  have hq:diffR a b first needs=([],chkS a):=diffR_a (by simpa using h6)
  exact SX.VC_ret fun α W _ hrow hS=>⟨hS.below,.slice none 0 0,[],Eq.trans (b:=Ending.returned (.tuple #[.slice none 0 0,.int .i64 (chkS a)])) (by kernel_rfl) (by rw [hq]),by rw [hq];rfl,by rw [hq];exact SX.SlRet.nil,fun h hh=>nomatch hh⟩
 try simp only [NRM]at h6
 refine SX.D (.bool (((chkS b):Int) != 0)) ?_
 refine SX.B (((chkS b):Int) != 0) (fun h7=>?_) (fun h7=>?_)
 ·try simp only [NRM]at h7
  refine SX.D (.bool (((chkS b):Int) != 0)) ?_
  refine SX.B (((chkS b):Int) != 0) (fun h8=>?_) (fun h8=>absurd (by assumption) (show ¬ (((chkS b):Int)≠0) by simpa using h8))
  have hq:diffR a b first needs=([],chkS b):=diffR_b (by simpa using h6) (by simpa using h7)
  exact SX.VC_ret fun α W _ hrow hS=>⟨hS.below,.slice none 0 0,[],Eq.trans (b:=Ending.returned (.tuple #[.slice none 0 0,.int .i64 (chkS b)])) (by kernel_rfl) (by rw [hq]),by rw [hq];rfl,by rw [hq];exact SX.SlRet.nil,fun h hh=>nomatch hh⟩
 try simp only [NRM]at h7
 refine SX.D (.int .i64 (((k:Nat):Int))) ?_
 refine SX.D (.bool (decide (((k:Nat):Int)>32))) ?_
 refine SX.B (decide (((k:Nat):Int)>32)) (fun h9=>?_) (fun h9=>?_)
 ·try simp only [NRM]at h9
  have hq:diffR a b first needs=([],2):=diffR_n (by simpa using h6) (by simpa using h7) (by(try simp at h9);omega)
  exact SX.VC_ret fun α W _ hrow hS=>⟨hS.below,.slice none 0 0,[],Eq.trans (b:=Ending.returned (.tuple #[.slice none 0 0,.int .i64 (2)])) (by kernel_rfl) (by rw [hq]),by rw [hq];rfl,by rw [hq];exact SX.SlRet.nil,fun h hh=>nomatch hh⟩
 try simp only [NRM]at h9
 refine SX.D (.int .i64 (((k:Nat):Int))) ?_
 refine SX.VC_loop (fun xs=>∃ (i:Nat) (last:Int),xs=[.int .i64 (i:Int),.int .i64 last,.agg (phL (nilL [])).toArray]∧i≤k∧incrTo needs 1 (first-1) i∧(i=0→last=0)∧(∀ z,0<i→needs[i-1]?=some z→last=z)∧0≤last) (fun xs=>match xs with|.int _ i::_=>k-i.toNat|_=>0) (fun α=>⟨0,0,by kernel_rfl,by omega,incrTo_zero,fun _=>rfl,fun z h=>absurd h (by omega),by omega⟩) ?_
 rintro xs-⟨i,last,rfl,hik,hok,hl0,hlz,hlp⟩
 refine SX.D (.bool (decide (((i:Nat):Int)<((k:Nat):Int)))) ?_
 refine SX.B (decide (((i:Nat):Int)<((k:Nat):Int))) (fun h14=>?_) (fun h14=>?_)
 ·try simp only [NRM]at h14
  obtain⟨y,hy⟩:∃ y,needs[i]?=some y:=⟨_,List.getElem?_eq_getElem (by omega)⟩
  refine SX.E (.bool true) (fun α=>SX.extBnd (A:=D) (n:=k) (c:=e) (j:=i) hD (by kernel_rfl) (by kernel_rfl) (by omega)) ?_
  refine SX.E (.int .i64 y) (fun α=>SX.extElem (o:=0) (v:=.int .i64 y) (f:=cellsI) (l:=needs) (A:=D) (n:=k) (c:=e) (j:=i) (z:=y) (fun _=>rfl) hD (by kernel_rfl) (by kernel_rfl) (by omega) (.inr (.inr ⟨rfl,rfl,rfl⟩)) hy (by decide) (by kernel_rfl)) ?_
  refine SX.D (.bool (decide (y≤last))) ?_
  refine SX.B (decide (y≤last)) (fun h17=>?_) (fun h17=>?_)
  ·try simp only [NRM]at h17
   have hq:diffR a b first needs=([],360):=diffR_i (by simpa using h6) (by simpa using h7) (by(try simp at h9);omega) (fun hk=>incrTo_no hy (fun hj=>by
    rcases Nat.eq_zero_or_pos i with h0|h0
    ·have:=hl0 h0;omega
    obtain⟨z,hz⟩:∃ z,needs[i-1]?=some z:=⟨_,List.getElem?_eq_getElem (by omega)⟩
    have q1:=hlz z h0 hz
    have q2:=hj.2.2 z h0 hz
    omega) hk.2)
   exact SX.VC_ret fun α W _ hrow hS=>⟨hS.below,.slice none 0 0,[],Eq.trans (b:=Ending.returned (.tuple #[.slice none 0 0,.int .i64 (360)])) (by kernel_rfl) (by rw [hq]),by rw [hq];rfl,by rw [hq];exact SX.SlRet.nil,fun h hh=>nomatch hh⟩
  try simp only [NRM]at h17
  refine SX.D (.bool (decide (y≥first))) ?_
  refine SX.B (decide (y≥first)) (fun h18=>?_) (fun h18=>?_)
  ·try simp only [NRM]at h18
   have hq:diffR a b first needs=([],360):=diffR_i (by simpa using h6) (by simpa using h7) (by(try simp at h9);omega) (fun hk=>incrTo_no hy (fun hj=>by omega) hk.2)
   exact SX.VC_ret fun α W _ hrow hS=>⟨hS.below,.slice none 0 0,[],Eq.trans (b:=Ending.returned (.tuple #[.slice none 0 0,.int .i64 (360)])) (by kernel_rfl) (by rw [hq]),by rw [hq];rfl,by rw [hq];exact SX.SlRet.nil,fun h hh=>nomatch hh⟩
  try simp only [NRM]at h18
  refine SX.E (.int .i64 (((i+1:Nat):Int))) (fun α=>SX.W1 i) ?_
  exact SX.VC_again fun α=>⟨⟨i+1,y,by kernel_rfl,by omega,incrTo_succ hok hy (by omega) (by omega) (fun z h0 hz=>by have:=hlz z h0 hz;omega),fun h=>absurd h (by omega),fun z _ hz=>by rw [Nat.add_sub_cancel,hy]at hz;cases hz;rfl,by omega⟩,cast (by kernel_rfl) (show k-((i+1:Nat):Int).toNat<k-(i:Int).toNat by omega)⟩
 try simp only [NRM]at h14
 refine SX.D (.bool (decide (first≥1))) ?_
 refine SX.B (decide (first≥1)) (fun h15=>?_) (fun h15=>?_)
 ·try simp only [NRM]at h15
  refine SX.D (.bool (decide (first≤1048576))) ?_
  refine SX.D (.bool (!(decide (first≤1048576)))) ?_
  refine SX.B (!(decide (first≤1048576))) (fun h17=>?_) (fun h17=>?_)
  ·try simp only [NRM]at h17
   have hq:diffR a b first needs=([],360):=diffR_i (by simpa using h6) (by simpa using h7) (by(try simp at h9);omega) (fun hk=>by(try simp at h17);omega)
   exact SX.VC_ret fun α W _ hrow hS=>⟨hS.below,.slice none 0 0,[],Eq.trans (b:=Ending.returned (.tuple #[.slice none 0 0,.int .i64 (360)])) (by kernel_rfl) (by rw [hq]),by rw [hq];rfl,by rw [hq];exact SX.SlRet.nil,fun h hh=>nomatch hh⟩
  try simp only [NRM]at h17
  refine SX.VC_df (.agg ((a).flatMap cellsSg).toArray) (fun α=>⟨sgsL a,⟨A,n,c,by kernel_rfl,hc⟩,.inl ⟨rfl,rfl,rfl⟩,.inl ⟨rfl,rfl,rfl⟩,rfl⟩) (rfl) ?_
  refine SX.VC_df (.agg ((b).flatMap cellsSg).toArray) (fun α=>⟨sgsL b,⟨B,m,d,by kernel_rfl,hc2⟩,.inr (.inl ⟨rfl,rfl,rfl⟩),.inr (.inl ⟨rfl,rfl,rfl⟩),rfl⟩) (rfl) ?_
  have hla:a.length≤4096∧b.length≤4096:=⟨(chkS_ok (by simpa using h6)).2,(chkS_ok (by simpa using h7)).2⟩
  have h9n:needs.length≤32:=by(try simp at h9);omega
  have hfs:(1≤first∧first≤1048576)∧incr needs 1 (first-1):=⟨⟨by omega,by(try simp at h17);omega⟩,by have e:i=needs.length:=(by omega);subst e;exact hok⟩
  have hD0:=diffR_m (a:=a) (b:=b) (by simpa using h6) (by simpa using h7) (by omega) hfs
  refine SX.VC_loop (fun xs=>∃ (a1 b1:List Sg) (acc:List Pt),xs=[.agg (sgsL a1).toArray,.agg (sgsL b1).toArray,.agg (phL (nilL acc)).toArray]∧mrg a b=(mrg a1 b1).map (acc++·)∧acc.length+9*(a1.length+b1.length)≤73728) (fun xs=>match xs with|.agg p::.agg q::_=>p.size+q.size|_=>0) (fun α=>⟨a,b,[],Eq.trans (b:=[.agg ([Value.agg (sgsL a).toArray].flatMap SX.cellsV).toArray,.agg ([Value.agg (sgsL b).toArray].flatMap SX.cellsV).toArray,.agg ([Value.agg (phL (nilL [])).toArray].flatMap SX.cellsV).toArray]) (by kernel_rfl) (by simp [SX.cellsV]),by simp,by simp;omega⟩) ?_
  rintro xs-⟨a1,b1,acc,rfl,hm,hlen⟩
  have hnl:(nilL acc).length=acc.length:=by simp [nilL]
  refine SX.E (.int .i64 ((((a1).length:Nat):Int))) (fun α=>SX.rlenD (f:=cellsSg) (l:=a1) (fun _=>rfl) (by decide) (SX.cat1 (by kernel_rfl))) ?_
  refine SX.D (.bool (decide ((((a1).length:Nat):Int)>0))) ?_
  refine SX.B (decide ((((a1).length:Nat):Int)>0)) (fun h24=>?_) (fun h24=>?_)
  ·try simp only [NRM]at h24
   refine SX.E (.int .i64 ((((b1).length:Nat):Int))) (fun α=>SX.rlenD (f:=cellsSg) (l:=b1) (fun _=>rfl) (by decide) (SX.cat1 (by kernel_rfl))) ?_
   refine SX.D (.bool (((((b1).length:Nat):Int):Int) == 0)) ?_
   refine SX.B (((((b1).length:Nat):Int):Int) == 0) (fun h26=>?_) (fun h26=>?_)
   ·try simp only [NRM]at h26
    obtain⟨x,hx⟩:∃ x,a1[0]?=some x:=⟨_,List.getElem?_eq_getElem (by omega)⟩
    have hid:∀ y,b1[0]?=some y→x.id<y.id:=fun y hy=>(no_head (by have:((b1.length:Nat):Int)=0:=(by simpa using h26);omega) hy).elim
    refine SX.E (.bool true) (fun α=>SX.row_bnd (f:=cellsSg) (l:=a1) (k:=0) (fun _=>rfl) (by decide) (SX.cat1 (by kernel_rfl)) (by kernel_rfl) ((List.getElem?_eq_some_iff.1 hx).1)) ?_
    refine SX.E (.bool true) (fun α=>SX.row_bnd (f:=cellsSg) (l:=a1) (k:=0) (fun _=>rfl) (by decide) (SX.cat1 (by kernel_rfl)) (by kernel_rfl) ((List.getElem?_eq_some_iff.1 hx).1)) ?_
    refine SX.E (.int .i64 x.id) (fun α=>SX.relemD (f:=cellsSg) (l:=a1) (k:=0) (z:=x) (v:=.int .i64 x.id) (fun _=>rfl) (by decide) (SX.cat1 (by kernel_rfl)) (by kernel_rfl) hx rfl) ?_
    refine SX.VC_df (Value.agg (phL [nilP (remP x)]).toArray) (fun α=>SX.app_rel (f:=cellsH) (l1:=nilL acc) (l2:=[nilP (remP x)]) (fun _=>rfl) cellsH_one (by decide) (SX.cat1 (by kernel_rfl)) (SX.src_own (by kernel_rfl)) (by simp only [nilL,List.length_map,List.length_cons,List.length_nil];omega) (by simp only [nilL,List.length_map,List.length_cons,List.length_nil];omega)) (rfl) ?_
    refine SX.VC_df (.agg (((a1).drop 1).flatMap cellsSg).toArray) (fun α=>SX.slcxD (f:=cellsSg) (l:=a1) (k:=1) (fun _=>rfl) (by decide) (SX.cat1 (by kernel_rfl)) (by kernel_rfl) (by have:=(List.getElem?_eq_some_iff.1 hx).1;omega)) (rfl) ?_
    exact SX.VC_again fun α=>⟨⟨(a1).drop 1,b1,acc++[remP x],Eq.trans (b:=[.agg ([Value.agg (sgsL ((a1).drop 1)).toArray].flatMap SX.cellsV).toArray,.agg ([Value.agg (sgsL (b1)).toArray].flatMap SX.cellsV).toArray,.agg ([Value.agg (phL (nilL acc)).toArray,Value.agg (phL [nilP (remP x)]).toArray].flatMap SX.cellsV).toArray]) (by kernel_rfl) (by simp [SX.cellsV,nilL_app,phL_app,nilL]),mrg_step hm (mrg_rmD hx hid),by have q1:=(List.getElem?_eq_some_iff.1 hx).1;simp only [LL];omega⟩,cast (by kernel_rfl) (show([Value.agg (sgsL ((a1).drop 1)).toArray].flatMap SX.cellsV).toArray.size+([Value.agg (sgsL (b1)).toArray].flatMap SX.cellsV).toArray.size<(sgsL a1).toArray.size+(sgsL b1).toArray.size from by have q1:=(List.getElem?_eq_some_iff.1 hx).1;simp only [List.flatMap_cons,List.flatMap_nil,List.append_nil,SX.cellsV,List.toList_toArray,List.size_toArray,sgsL_len,List.length_drop];omega)⟩
   try simp only [NRM]at h26
   refine SX.E (.int .i64 ((((a1).length:Nat):Int))) (fun α=>SX.rlenD (f:=cellsSg) (l:=a1) (fun _=>rfl) (by decide) (SX.cat1 (by kernel_rfl))) ?_
   refine SX.D (.bool (decide ((((a1).length:Nat):Int)>0))) ?_
   refine SX.B (decide ((((a1).length:Nat):Int)>0)) (fun h28=>?_) (fun h28=>absurd (show(((a1).length:Nat):Int)>0 by omega) (of_decide_eq_false h28))
   obtain⟨x,hx⟩:∃ x,a1[0]?=some x:=⟨_,List.getElem?_eq_getElem (by omega)⟩
   obtain⟨y,hy⟩:∃ y,b1[0]?=some y:=⟨_,List.getElem?_eq_getElem (by have:¬ ((b1.length:Nat):Int)=0:=(by simpa using h26);omega)⟩
   refine SX.E (.bool true) (fun α=>SX.row_bnd (f:=cellsSg) (l:=a1) (k:=0) (fun _=>rfl) (by decide) (SX.cat1 (by kernel_rfl)) (by kernel_rfl) ((List.getElem?_eq_some_iff.1 hx).1)) ?_
   refine SX.E (.bool true) (fun α=>SX.row_bnd (f:=cellsSg) (l:=a1) (k:=0) (fun _=>rfl) (by decide) (SX.cat1 (by kernel_rfl)) (by kernel_rfl) ((List.getElem?_eq_some_iff.1 hx).1)) ?_
   refine SX.E (.int .i64 x.id) (fun α=>SX.relemD (f:=cellsSg) (l:=a1) (k:=0) (z:=x) (v:=.int .i64 x.id) (fun _=>rfl) (by decide) (SX.cat1 (by kernel_rfl)) (by kernel_rfl) hx rfl) ?_
   refine SX.E (.bool true) (fun α=>SX.row_bnd (f:=cellsSg) (l:=b1) (k:=0) (fun _=>rfl) (by decide) (SX.cat1 (by kernel_rfl)) (by kernel_rfl) ((List.getElem?_eq_some_iff.1 hy).1)) ?_
   refine SX.E (.bool true) (fun α=>SX.row_bnd (f:=cellsSg) (l:=b1) (k:=0) (fun _=>rfl) (by decide) (SX.cat1 (by kernel_rfl)) (by kernel_rfl) ((List.getElem?_eq_some_iff.1 hy).1)) ?_
   refine SX.E (.int .i64 y.id) (fun α=>SX.relemD (f:=cellsSg) (l:=b1) (k:=0) (z:=y) (v:=.int .i64 y.id) (fun _=>rfl) (by decide) (SX.cat1 (by kernel_rfl)) (by kernel_rfl) hy rfl) ?_
   refine SX.D (.bool (decide (x.id<y.id))) ?_
   refine SX.B (decide (x.id<y.id)) (fun h35=>?_) (fun h35=>?_)
   ·try simp only [NRM]at h35
    have hid:∀ z,b1[0]?=some z→x.id<z.id:=fun z hz=>by rw [hy]at hz;cases hz;omega
    refine SX.E (.bool true) (fun α=>SX.row_bnd (f:=cellsSg) (l:=a1) (k:=0) (fun _=>rfl) (by decide) (SX.cat1 (by kernel_rfl)) (by kernel_rfl) ((List.getElem?_eq_some_iff.1 hx).1)) ?_
    refine SX.E (.bool true) (fun α=>SX.row_bnd (f:=cellsSg) (l:=a1) (k:=0) (fun _=>rfl) (by decide) (SX.cat1 (by kernel_rfl)) (by kernel_rfl) ((List.getElem?_eq_some_iff.1 hx).1)) ?_
    refine SX.E (.int .i64 x.id) (fun α=>SX.relemD (f:=cellsSg) (l:=a1) (k:=0) (z:=x) (v:=.int .i64 x.id) (fun _=>rfl) (by decide) (SX.cat1 (by kernel_rfl)) (by kernel_rfl) hx rfl) ?_
    refine SX.VC_df (Value.agg (phL [nilP (remP x)]).toArray) (fun α=>SX.app_rel (f:=cellsH) (l1:=nilL acc) (l2:=[nilP (remP x)]) (fun _=>rfl) cellsH_one (by decide) (SX.cat1 (by kernel_rfl)) (SX.src_own (by kernel_rfl)) (by simp only [nilL,List.length_map,List.length_cons,List.length_nil];omega) (by simp only [nilL,List.length_map,List.length_cons,List.length_nil];omega)) (rfl) ?_
    refine SX.VC_df (.agg (((a1).drop 1).flatMap cellsSg).toArray) (fun α=>SX.slcxD (f:=cellsSg) (l:=a1) (k:=1) (fun _=>rfl) (by decide) (SX.cat1 (by kernel_rfl)) (by kernel_rfl) (by have:=(List.getElem?_eq_some_iff.1 hx).1;omega)) (rfl) ?_
    exact SX.VC_again fun α=>⟨⟨(a1).drop 1,b1,acc++[remP x],Eq.trans (b:=[.agg ([Value.agg (sgsL ((a1).drop 1)).toArray].flatMap SX.cellsV).toArray,.agg ([Value.agg (sgsL (b1)).toArray].flatMap SX.cellsV).toArray,.agg ([Value.agg (phL (nilL acc)).toArray,Value.agg (phL [nilP (remP x)]).toArray].flatMap SX.cellsV).toArray]) (by kernel_rfl) (by simp [SX.cellsV,nilL_app,phL_app,nilL]),mrg_step hm (mrg_rmD hx hid),by have q1:=(List.getElem?_eq_some_iff.1 hx).1;simp only [LL];omega⟩,cast (by kernel_rfl) (show([Value.agg (sgsL ((a1).drop 1)).toArray].flatMap SX.cellsV).toArray.size+([Value.agg (sgsL (b1)).toArray].flatMap SX.cellsV).toArray.size<(sgsL a1).toArray.size+(sgsL b1).toArray.size from by have q1:=(List.getElem?_eq_some_iff.1 hx).1;simp only [List.flatMap_cons,List.flatMap_nil,List.append_nil,SX.cellsV,List.toList_toArray,List.size_toArray,sgsL_len,List.length_drop];omega)⟩
   try simp only [NRM]at h35
   refine SX.E (.int .i64 ((((a1).length:Nat):Int))) (fun α=>SX.rlenD (f:=cellsSg) (l:=a1) (fun _=>rfl) (by decide) (SX.cat1 (by kernel_rfl))) ?_
   refine SX.D (.bool (((((a1).length:Nat):Int):Int) == 0)) ?_
   refine SX.B (((((a1).length:Nat):Int):Int) == 0) (fun h37=>absurd (beq_iff_eq.1 h37) (by omega)) (fun h37=>?_)
   refine SX.E (.bool true) (fun α=>SX.row_bnd (f:=cellsSg) (l:=b1) (k:=0) (fun _=>rfl) (by decide) (SX.cat1 (by kernel_rfl)) (by kernel_rfl) ((List.getElem?_eq_some_iff.1 hy).1)) ?_
   refine SX.E (.bool true) (fun α=>SX.row_bnd (f:=cellsSg) (l:=b1) (k:=0) (fun _=>rfl) (by decide) (SX.cat1 (by kernel_rfl)) (by kernel_rfl) ((List.getElem?_eq_some_iff.1 hy).1)) ?_
   refine SX.E (.int .i64 y.id) (fun α=>SX.relemD (f:=cellsSg) (l:=b1) (k:=0) (z:=y) (v:=.int .i64 y.id) (fun _=>rfl) (by decide) (SX.cat1 (by kernel_rfl)) (by kernel_rfl) hy rfl) ?_
   refine SX.E (.bool true) (fun α=>SX.row_bnd (f:=cellsSg) (l:=a1) (k:=0) (fun _=>rfl) (by decide) (SX.cat1 (by kernel_rfl)) (by kernel_rfl) ((List.getElem?_eq_some_iff.1 hx).1)) ?_
   refine SX.E (.bool true) (fun α=>SX.row_bnd (f:=cellsSg) (l:=a1) (k:=0) (fun _=>rfl) (by decide) (SX.cat1 (by kernel_rfl)) (by kernel_rfl) ((List.getElem?_eq_some_iff.1 hx).1)) ?_
   refine SX.E (.int .i64 x.id) (fun α=>SX.relemD (f:=cellsSg) (l:=a1) (k:=0) (z:=x) (v:=.int .i64 x.id) (fun _=>rfl) (by decide) (SX.cat1 (by kernel_rfl)) (by kernel_rfl) hx rfl) ?_
   refine SX.D (.bool (decide (y.id<x.id))) ?_
   refine SX.B (decide (y.id<x.id)) (fun h44=>?_) (fun h44=>?_)
   ·try simp only [NRM]at h44
    have hid:∀ z,a1[0]?=some z→y.id<z.id:=fun z hz=>by rw [hx]at hz;cases hz;omega
    refine SX.E (.bool true) (fun α=>SX.row_bnd (f:=cellsSg) (l:=b1) (k:=0) (fun _=>rfl) (by decide) (SX.cat1 (by kernel_rfl)) (by kernel_rfl) ((List.getElem?_eq_some_iff.1 hy).1)) ?_
    refine SX.E (.bool true) (fun α=>SX.row_bnd (f:=cellsSg) (l:=b1) (k:=0) (fun _=>rfl) (by decide) (SX.cat1 (by kernel_rfl)) (by kernel_rfl) ((List.getElem?_eq_some_iff.1 hy).1)) ?_
    refine SX.E (.int .i64 y.id) (fun α=>SX.relemD (f:=cellsSg) (l:=b1) (k:=0) (z:=y) (v:=.int .i64 y.id) (fun _=>rfl) (by decide) (SX.cat1 (by kernel_rfl)) (by kernel_rfl) hy rfl) ?_
    refine SX.E (.bool true) (fun α=>SX.row_bnd (f:=cellsSg) (l:=b1) (k:=0) (fun _=>rfl) (by decide) (SX.cat1 (by kernel_rfl)) (by kernel_rfl) ((List.getElem?_eq_some_iff.1 hy).1)) ?_
    refine SX.E (.agg (cellsSg y).toArray) (fun α=>SX.row_elems (f:=cellsSg) (l:=b1) (k:=0) (z:=y) (fun _=>rfl) (by decide) (SX.cat1 (by kernel_rfl)) (by kernel_rfl) hy) ?_
    refine SX.VC_df (Value.agg (phL [nilP (insP y)]).toArray) (fun α=>SX.app_rel (f:=cellsH) (l1:=nilL acc) (l2:=[nilP (insP y)]) (fun _=>rfl) cellsH_one (by decide) (SX.cat1 (by kernel_rfl)) (SX.src_own (by kernel_rfl)) (by simp only [nilL,List.length_map,List.length_cons,List.length_nil];omega) (by simp only [nilL,List.length_map,List.length_cons,List.length_nil];omega)) (rfl) ?_
    refine SX.VC_df (.agg (((b1).drop 1).flatMap cellsSg).toArray) (fun α=>SX.slcxD (f:=cellsSg) (l:=b1) (k:=1) (fun _=>rfl) (by decide) (SX.cat1 (by kernel_rfl)) (by kernel_rfl) (by have:=(List.getElem?_eq_some_iff.1 hy).1;omega)) (rfl) ?_
    exact SX.VC_again fun α=>⟨⟨a1,(b1).drop 1,acc++[insP y],Eq.trans (b:=[.agg ([Value.agg (sgsL (a1)).toArray].flatMap SX.cellsV).toArray,.agg ([Value.agg (sgsL ((b1).drop 1)).toArray].flatMap SX.cellsV).toArray,.agg ([Value.agg (phL (nilL acc)).toArray,Value.agg (phL [nilP (insP y)]).toArray].flatMap SX.cellsV).toArray]) (by kernel_rfl) (by simp [SX.cellsV,nilL_app,phL_app,nilL]),mrg_step hm (mrg_inD hy hid),by have q2:=(List.getElem?_eq_some_iff.1 hy).1;simp only [LL];omega⟩,cast (by kernel_rfl) (show([Value.agg (sgsL (a1)).toArray].flatMap SX.cellsV).toArray.size+([Value.agg (sgsL ((b1).drop 1)).toArray].flatMap SX.cellsV).toArray.size<(sgsL a1).toArray.size+(sgsL b1).toArray.size from by have q2:=(List.getElem?_eq_some_iff.1 hy).1;simp only [List.flatMap_cons,List.flatMap_nil,List.append_nil,SX.cellsV,List.toList_toArray,List.size_toArray,sgsL_len,List.length_drop];omega)⟩
   try simp only [NRM]at h44
   have hid:x.id=y.id:=by omega
   refine SX.E (.bool true) (fun α=>SX.row_bnd (f:=cellsSg) (l:=a1) (k:=0) (fun _=>rfl) (by decide) (SX.cat1 (by kernel_rfl)) (by kernel_rfl) ((List.getElem?_eq_some_iff.1 hx).1)) ?_
   refine SX.E (.bool true) (fun α=>SX.row_bnd (f:=cellsSg) (l:=a1) (k:=0) (fun _=>rfl) (by decide) (SX.cat1 (by kernel_rfl)) (by kernel_rfl) ((List.getElem?_eq_some_iff.1 hx).1)) ?_
   refine SX.E (.int .i64 x.kind) (fun α=>SX.relemD (f:=cellsSg) (l:=a1) (k:=0) (z:=x) (v:=.int .i64 x.kind) (fun _=>rfl) (by decide) (SX.cat1 (by kernel_rfl)) (by kernel_rfl) hx rfl) ?_
   refine SX.E (.bool true) (fun α=>SX.row_bnd (f:=cellsSg) (l:=b1) (k:=0) (fun _=>rfl) (by decide) (SX.cat1 (by kernel_rfl)) (by kernel_rfl) ((List.getElem?_eq_some_iff.1 hy).1)) ?_
   refine SX.E (.bool true) (fun α=>SX.row_bnd (f:=cellsSg) (l:=b1) (k:=0) (fun _=>rfl) (by decide) (SX.cat1 (by kernel_rfl)) (by kernel_rfl) ((List.getElem?_eq_some_iff.1 hy).1)) ?_
   refine SX.E (.int .i64 y.kind) (fun α=>SX.relemD (f:=cellsSg) (l:=b1) (k:=0) (z:=y) (v:=.int .i64 y.kind) (fun _=>rfl) (by decide) (SX.cat1 (by kernel_rfl)) (by kernel_rfl) hy rfl) ?_
   refine SX.D (.bool ((x.kind:Int) != y.kind)) ?_
   refine SX.B ((x.kind:Int) != y.kind) (fun h51=>?_) (fun h51=>?_)
   ·try simp only [NRM]at h51
    have hq:diffR a b first needs=([],360):=by
     rw [hD0,hm,mrg_noD hx hy hid (by simpa using h51)];rfl
    exact SX.VC_ret fun α W _ hrow hS=>⟨hS.below,.slice none 0 0,[],Eq.trans (b:=Ending.returned (.tuple #[.slice none 0 0,.int .i64 (360)])) (by kernel_rfl) (by rw [hq]),by rw [hq];rfl,by rw [hq];exact SX.SlRet.nil,fun h hh=>nomatch hh⟩
   try simp only [NRM]at h51
   have hkd:x.kind=y.kind:=by simpa using h51
   refine SX.E (.bool true) (fun α=>SX.row_bnd (f:=cellsSg) (l:=a1) (k:=0) (fun _=>rfl) (by decide) (SX.cat1 (by kernel_rfl)) (by kernel_rfl) ((List.getElem?_eq_some_iff.1 hx).1)) ?_
   refine SX.E (.agg (cellsSg x).toArray) (fun α=>SX.row_elems (f:=cellsSg) (l:=a1) (k:=0) (z:=x) (fun _=>rfl) (by decide) (SX.cat1 (by kernel_rfl)) (by kernel_rfl) hx) ?_
   refine SX.E (.bool true) (fun α=>SX.row_bnd (f:=cellsSg) (l:=b1) (k:=0) (fun _=>rfl) (by decide) (SX.cat1 (by kernel_rfl)) (by kernel_rfl) ((List.getElem?_eq_some_iff.1 hy).1)) ?_
   refine SX.E (.agg (cellsSg y).toArray) (fun α=>SX.row_elems (f:=cellsSg) (l:=b1) (k:=0) (z:=y) (fun _=>rfl) (by decide) (SX.cat1 (by kernel_rfl)) (by kernel_rfl) hy) ?_
   refine SX.VC_loop (fun xs=>∃ k2:Nat,xs=[.int .i64 (k2:Int),.agg (phL (nilL (acc++chT x y k2))).toArray]∧k2≤8) (fun xs=>match xs with|.int _ i::_=>8-i.toNat|_=>0) (fun α=>⟨0,Eq.trans (b:=[.int .i64 0,.agg ([Value.agg (phL (nilL acc)).toArray].flatMap SX.cellsV).toArray]) (by kernel_rfl) (by simp [SX.cellsV,chT]),by omega⟩) ?_
   rintro xs-⟨k2,rfl,hk2⟩
   refine SX.D (.bool (decide (((k2:Nat):Int)<8))) ?_
   refine SX.B (decide (((k2:Nat):Int)<8)) (fun h58=>?_) (fun h58=>?_)
   ·try simp only [NRM]at h58
    refine SX.VC_sp k2 (by show k2<8;omega) (by kernel_rfl) fun t ht=>?_
    have hk3:k2=0∨k2=1∨k2=2∨k2=3∨k2=4∨k2=5∨k2=6∨k2=7:=by omega
    rcases hk3 with rfl|rfl|rfl|rfl|rfl|rfl|rfl|rfl
    ·cases (Option.some.inj ht)
     refine SX.D (.bool ((x.role:Int) == y.role)) ?_
     refine SX.B ((x.role:Int) == y.role) (fun h59=>?_) (fun h59=>?_)
     ·try simp only [NRM]at h59
      exact SX.VC_again fun α=>⟨⟨1,Eq.trans (b:=[.int .i64 1,.agg ([Value.agg (phL (nilL (acc++chT x y 0))).toArray].flatMap SX.cellsV).toArray]) (by kernel_rfl) (by rw [show chT x y 1=chT x y 0 from chT_same (k:=0) (by show setF zeroSg 1 x=setF zeroSg 1 y;simpa [setF,zeroSg]using h59)];simp [SX.cellsV]),by omega⟩,cast (by kernel_rfl) (show 8-(1:Int).toNat<8-(0:Int).toNat by decide)⟩
     try simp only [NRM]at h59
     refine SX.VC_df (Value.agg (phL [nilP ((⟨0,1,x.id,1,setF zeroSg 1 y,[]⟩:Pt))]).toArray) (fun α=>SX.app_rel (f:=cellsH) (l1:=nilL (acc++chT x y 0)) (l2:=[nilP ((⟨0,1,x.id,1,setF zeroSg 1 y,[]⟩:Pt))]) (fun _=>rfl) cellsH_one (by decide) (SX.cat1 (by kernel_rfl)) (SX.src_own (by kernel_rfl)) (by have:=chT_len x y 8;have:=chT_len x y 0;simp only [nilL,List.length_map,List.length_append,List.length_cons,List.length_nil];omega) (by have:=chT_len x y 8;have:=chT_len x y 0;simp only [nilL,List.length_map,List.length_append,List.length_cons,List.length_nil];omega)) (rfl) ?_
     exact SX.VC_again fun α=>⟨⟨1,Eq.trans (b:=[.int .i64 1,.agg ([Value.agg (phL (nilL (acc++chT x y 0))).toArray,Value.agg (phL [nilP (⟨0,1,x.id,1,setF zeroSg 1 y,[]⟩:Pt)]).toArray].flatMap SX.cellsV).toArray]) (by kernel_rfl) (by rw [show chT x y 1=chT x y 0++[(⟨0,1,x.id,1,setF zeroSg 1 y,[]⟩:Pt)] from chT_other (k:=0) (by show ¬ setF zeroSg 1 x=setF zeroSg 1 y;simpa [setF,zeroSg]using h59)];simp [SX.cellsV,nilL_app,phL_app,nilL]),by omega⟩,cast (by kernel_rfl) (show 8-(1:Int).toNat<8-(0:Int).toNat by decide)⟩
    ·cases (Option.some.inj ht)
     refine SX.D (.bool ((x.bar:Int) == y.bar)) ?_
     refine SX.B ((x.bar:Int) == y.bar) (fun h59=>?_) (fun h59=>?_)
     ·try simp only [NRM]at h59
      exact SX.VC_again fun α=>⟨⟨2,Eq.trans (b:=[.int .i64 2,.agg ([Value.agg (phL (nilL (acc++chT x y 1))).toArray].flatMap SX.cellsV).toArray]) (by kernel_rfl) (by rw [show chT x y 2=chT x y 1 from chT_same (k:=1) (by show setF zeroSg 2 x=setF zeroSg 2 y;simpa [setF,zeroSg]using h59)];simp [SX.cellsV]),by omega⟩,cast (by kernel_rfl) (show 8-(2:Int).toNat<8-(1:Int).toNat by decide)⟩
     try simp only [NRM]at h59
     refine SX.VC_df (Value.agg (phL [nilP ((⟨0,1,x.id,2,setF zeroSg 2 y,[]⟩:Pt))]).toArray) (fun α=>SX.app_rel (f:=cellsH) (l1:=nilL (acc++chT x y 1)) (l2:=[nilP ((⟨0,1,x.id,2,setF zeroSg 2 y,[]⟩:Pt))]) (fun _=>rfl) cellsH_one (by decide) (SX.cat1 (by kernel_rfl)) (SX.src_own (by kernel_rfl)) (by have:=chT_len x y 8;have:=chT_len x y 1;simp only [nilL,List.length_map,List.length_append,List.length_cons,List.length_nil];omega) (by have:=chT_len x y 8;have:=chT_len x y 1;simp only [nilL,List.length_map,List.length_append,List.length_cons,List.length_nil];omega)) (rfl) ?_
     exact SX.VC_again fun α=>⟨⟨2,Eq.trans (b:=[.int .i64 2,.agg ([Value.agg (phL (nilL (acc++chT x y 1))).toArray,Value.agg (phL [nilP (⟨0,1,x.id,2,setF zeroSg 2 y,[]⟩:Pt)]).toArray].flatMap SX.cellsV).toArray]) (by kernel_rfl) (by rw [show chT x y 2=chT x y 1++[(⟨0,1,x.id,2,setF zeroSg 2 y,[]⟩:Pt)] from chT_other (k:=1) (by show ¬ setF zeroSg 2 x=setF zeroSg 2 y;simpa [setF,zeroSg]using h59)];simp [SX.cellsV,nilL_app,phL_app,nilL]),by omega⟩,cast (by kernel_rfl) (show 8-(2:Int).toNat<8-(1:Int).toNat by decide)⟩
    ·cases (Option.some.inj ht)
     refine SX.D (.bool ((x.mark:Int) == y.mark)) ?_
     refine SX.B ((x.mark:Int) == y.mark) (fun h59=>?_) (fun h59=>?_)
     ·try simp only [NRM]at h59
      exact SX.VC_again fun α=>⟨⟨3,Eq.trans (b:=[.int .i64 3,.agg ([Value.agg (phL (nilL (acc++chT x y 2))).toArray].flatMap SX.cellsV).toArray]) (by kernel_rfl) (by rw [show chT x y 3=chT x y 2 from chT_same (k:=2) (by show setF zeroSg 3 x=setF zeroSg 3 y;simpa [setF,zeroSg]using h59)];simp [SX.cellsV]),by omega⟩,cast (by kernel_rfl) (show 8-(3:Int).toNat<8-(2:Int).toNat by decide)⟩
     try simp only [NRM]at h59
     refine SX.VC_df (Value.agg (phL [nilP ((⟨0,1,x.id,3,setF zeroSg 3 y,[]⟩:Pt))]).toArray) (fun α=>SX.app_rel (f:=cellsH) (l1:=nilL (acc++chT x y 2)) (l2:=[nilP ((⟨0,1,x.id,3,setF zeroSg 3 y,[]⟩:Pt))]) (fun _=>rfl) cellsH_one (by decide) (SX.cat1 (by kernel_rfl)) (SX.src_own (by kernel_rfl)) (by have:=chT_len x y 8;have:=chT_len x y 2;simp only [nilL,List.length_map,List.length_append,List.length_cons,List.length_nil];omega) (by have:=chT_len x y 8;have:=chT_len x y 2;simp only [nilL,List.length_map,List.length_append,List.length_cons,List.length_nil];omega)) (rfl) ?_
     exact SX.VC_again fun α=>⟨⟨3,Eq.trans (b:=[.int .i64 3,.agg ([Value.agg (phL (nilL (acc++chT x y 2))).toArray,Value.agg (phL [nilP (⟨0,1,x.id,3,setF zeroSg 3 y,[]⟩:Pt)]).toArray].flatMap SX.cellsV).toArray]) (by kernel_rfl) (by rw [show chT x y 3=chT x y 2++[(⟨0,1,x.id,3,setF zeroSg 3 y,[]⟩:Pt)] from chT_other (k:=2) (by show ¬ setF zeroSg 3 x=setF zeroSg 3 y;simpa [setF,zeroSg]using h59)];simp [SX.cellsV,nilL_app,phL_app,nilL]),by omega⟩,cast (by kernel_rfl) (show 8-(3:Int).toNat<8-(2:Int).toNat by decide)⟩
    ·cases (Option.some.inj ht)
     refine SX.D (.bool ((x.side:Int) == y.side)) ?_
     refine SX.B ((x.side:Int) == y.side) (fun h59=>?_) (fun h59=>?_)
     ·try simp only [NRM]at h59
      exact SX.VC_again fun α=>⟨⟨4,Eq.trans (b:=[.int .i64 4,.agg ([Value.agg (phL (nilL (acc++chT x y 3))).toArray].flatMap SX.cellsV).toArray]) (by kernel_rfl) (by rw [show chT x y 4=chT x y 3 from chT_same (k:=3) (by show setF zeroSg 4 x=setF zeroSg 4 y;simpa [setF,zeroSg]using h59)];simp [SX.cellsV]),by omega⟩,cast (by kernel_rfl) (show 8-(4:Int).toNat<8-(3:Int).toNat by decide)⟩
     try simp only [NRM]at h59
     refine SX.VC_df (Value.agg (phL [nilP ((⟨0,1,x.id,4,setF zeroSg 4 y,[]⟩:Pt))]).toArray) (fun α=>SX.app_rel (f:=cellsH) (l1:=nilL (acc++chT x y 3)) (l2:=[nilP ((⟨0,1,x.id,4,setF zeroSg 4 y,[]⟩:Pt))]) (fun _=>rfl) cellsH_one (by decide) (SX.cat1 (by kernel_rfl)) (SX.src_own (by kernel_rfl)) (by have:=chT_len x y 8;have:=chT_len x y 3;simp only [nilL,List.length_map,List.length_append,List.length_cons,List.length_nil];omega) (by have:=chT_len x y 8;have:=chT_len x y 3;simp only [nilL,List.length_map,List.length_append,List.length_cons,List.length_nil];omega)) (rfl) ?_
     exact SX.VC_again fun α=>⟨⟨4,Eq.trans (b:=[.int .i64 4,.agg ([Value.agg (phL (nilL (acc++chT x y 3))).toArray,Value.agg (phL [nilP (⟨0,1,x.id,4,setF zeroSg 4 y,[]⟩:Pt)]).toArray].flatMap SX.cellsV).toArray]) (by kernel_rfl) (by rw [show chT x y 4=chT x y 3++[(⟨0,1,x.id,4,setF zeroSg 4 y,[]⟩:Pt)] from chT_other (k:=3) (by show ¬ setF zeroSg 4 x=setF zeroSg 4 y;simpa [setF,zeroSg]using h59)];simp [SX.cellsV,nilL_app,phL_app,nilL]),by omega⟩,cast (by kernel_rfl) (show 8-(4:Int).toNat<8-(3:Int).toNat by decide)⟩
    ·cases (Option.some.inj ht)
     refine SX.D (.bool ((x.dir:Int) == y.dir)) ?_
     refine SX.B ((x.dir:Int) == y.dir) (fun h59=>?_) (fun h59=>?_)
     ·try simp only [NRM]at h59
      exact SX.VC_again fun α=>⟨⟨5,Eq.trans (b:=[.int .i64 5,.agg ([Value.agg (phL (nilL (acc++chT x y 4))).toArray].flatMap SX.cellsV).toArray]) (by kernel_rfl) (by rw [show chT x y 5=chT x y 4 from chT_same (k:=4) (by show setF zeroSg 5 x=setF zeroSg 5 y;simpa [setF,zeroSg]using h59)];simp [SX.cellsV]),by omega⟩,cast (by kernel_rfl) (show 8-(5:Int).toNat<8-(4:Int).toNat by decide)⟩
     try simp only [NRM]at h59
     refine SX.VC_df (Value.agg (phL [nilP ((⟨0,1,x.id,5,setF zeroSg 5 y,[]⟩:Pt))]).toArray) (fun α=>SX.app_rel (f:=cellsH) (l1:=nilL (acc++chT x y 4)) (l2:=[nilP ((⟨0,1,x.id,5,setF zeroSg 5 y,[]⟩:Pt))]) (fun _=>rfl) cellsH_one (by decide) (SX.cat1 (by kernel_rfl)) (SX.src_own (by kernel_rfl)) (by have:=chT_len x y 8;have:=chT_len x y 4;simp only [nilL,List.length_map,List.length_append,List.length_cons,List.length_nil];omega) (by have:=chT_len x y 8;have:=chT_len x y 4;simp only [nilL,List.length_map,List.length_append,List.length_cons,List.length_nil];omega)) (rfl) ?_
     exact SX.VC_again fun α=>⟨⟨5,Eq.trans (b:=[.int .i64 5,.agg ([Value.agg (phL (nilL (acc++chT x y 4))).toArray,Value.agg (phL [nilP (⟨0,1,x.id,5,setF zeroSg 5 y,[]⟩:Pt)]).toArray].flatMap SX.cellsV).toArray]) (by kernel_rfl) (by rw [show chT x y 5=chT x y 4++[(⟨0,1,x.id,5,setF zeroSg 5 y,[]⟩:Pt)] from chT_other (k:=4) (by show ¬ setF zeroSg 5 x=setF zeroSg 5 y;simpa [setF,zeroSg]using h59)];simp [SX.cellsV,nilL_app,phL_app,nilL]),by omega⟩,cast (by kernel_rfl) (show 8-(5:Int).toNat<8-(4:Int).toNat by decide)⟩
    ·cases (Option.some.inj ht)
     refine SX.D (.bool ((x.level:Int) == y.level)) ?_
     refine SX.B ((x.level:Int) == y.level) (fun h59=>?_) (fun h59=>?_)
     ·try simp only [NRM]at h59
      exact SX.VC_again fun α=>⟨⟨6,Eq.trans (b:=[.int .i64 6,.agg ([Value.agg (phL (nilL (acc++chT x y 5))).toArray].flatMap SX.cellsV).toArray]) (by kernel_rfl) (by rw [show chT x y 6=chT x y 5 from chT_same (k:=5) (by show setF zeroSg 6 x=setF zeroSg 6 y;simpa [setF,zeroSg]using h59)];simp [SX.cellsV]),by omega⟩,cast (by kernel_rfl) (show 8-(6:Int).toNat<8-(5:Int).toNat by decide)⟩
     try simp only [NRM]at h59
     refine SX.VC_df (Value.agg (phL [nilP ((⟨0,1,x.id,6,setF zeroSg 6 y,[]⟩:Pt))]).toArray) (fun α=>SX.app_rel (f:=cellsH) (l1:=nilL (acc++chT x y 5)) (l2:=[nilP ((⟨0,1,x.id,6,setF zeroSg 6 y,[]⟩:Pt))]) (fun _=>rfl) cellsH_one (by decide) (SX.cat1 (by kernel_rfl)) (SX.src_own (by kernel_rfl)) (by have:=chT_len x y 8;have:=chT_len x y 5;simp only [nilL,List.length_map,List.length_append,List.length_cons,List.length_nil];omega) (by have:=chT_len x y 8;have:=chT_len x y 5;simp only [nilL,List.length_map,List.length_append,List.length_cons,List.length_nil];omega)) (rfl) ?_
     exact SX.VC_again fun α=>⟨⟨6,Eq.trans (b:=[.int .i64 6,.agg ([Value.agg (phL (nilL (acc++chT x y 5))).toArray,Value.agg (phL [nilP (⟨0,1,x.id,6,setF zeroSg 6 y,[]⟩:Pt)]).toArray].flatMap SX.cellsV).toArray]) (by kernel_rfl) (by rw [show chT x y 6=chT x y 5++[(⟨0,1,x.id,6,setF zeroSg 6 y,[]⟩:Pt)] from chT_other (k:=5) (by show ¬ setF zeroSg 6 x=setF zeroSg 6 y;simpa [setF,zeroSg]using h59)];simp [SX.cellsV,nilL_app,phL_app,nilL]),by omega⟩,cast (by kernel_rfl) (show 8-(6:Int).toNat<8-(5:Int).toNat by decide)⟩
    ·cases (Option.some.inj ht)
     refine SX.D (.bool ((x.size:Int) == y.size)) ?_
     refine SX.B ((x.size:Int) == y.size) (fun h59=>?_) (fun h59=>?_)
     ·try simp only [NRM]at h59
      exact SX.VC_again fun α=>⟨⟨7,Eq.trans (b:=[.int .i64 7,.agg ([Value.agg (phL (nilL (acc++chT x y 6))).toArray].flatMap SX.cellsV).toArray]) (by kernel_rfl) (by rw [show chT x y 7=chT x y 6 from chT_same (k:=6) (by show setF zeroSg 7 x=setF zeroSg 7 y;simpa [setF,zeroSg]using h59)];simp [SX.cellsV]),by omega⟩,cast (by kernel_rfl) (show 8-(7:Int).toNat<8-(6:Int).toNat by decide)⟩
     try simp only [NRM]at h59
     refine SX.VC_df (Value.agg (phL [nilP ((⟨0,1,x.id,7,setF zeroSg 7 y,[]⟩:Pt))]).toArray) (fun α=>SX.app_rel (f:=cellsH) (l1:=nilL (acc++chT x y 6)) (l2:=[nilP ((⟨0,1,x.id,7,setF zeroSg 7 y,[]⟩:Pt))]) (fun _=>rfl) cellsH_one (by decide) (SX.cat1 (by kernel_rfl)) (SX.src_own (by kernel_rfl)) (by have:=chT_len x y 8;have:=chT_len x y 6;simp only [nilL,List.length_map,List.length_append,List.length_cons,List.length_nil];omega) (by have:=chT_len x y 8;have:=chT_len x y 6;simp only [nilL,List.length_map,List.length_append,List.length_cons,List.length_nil];omega)) (rfl) ?_
     exact SX.VC_again fun α=>⟨⟨7,Eq.trans (b:=[.int .i64 7,.agg ([Value.agg (phL (nilL (acc++chT x y 6))).toArray,Value.agg (phL [nilP (⟨0,1,x.id,7,setF zeroSg 7 y,[]⟩:Pt)]).toArray].flatMap SX.cellsV).toArray]) (by kernel_rfl) (by rw [show chT x y 7=chT x y 6++[(⟨0,1,x.id,7,setF zeroSg 7 y,[]⟩:Pt)] from chT_other (k:=6) (by show ¬ setF zeroSg 7 x=setF zeroSg 7 y;simpa [setF,zeroSg]using h59)];simp [SX.cellsV,nilL_app,phL_app,nilL]),by omega⟩,cast (by kernel_rfl) (show 8-(7:Int).toNat<8-(6:Int).toNat by decide)⟩
    cases (Option.some.inj ht)
    refine SX.D (.bool ((x.with_:Int) == y.with_)) ?_
    refine SX.B ((x.with_:Int) == y.with_) (fun h59=>?_) (fun h59=>?_)
    ·try simp only [NRM]at h59
     exact SX.VC_again fun α=>⟨⟨8,Eq.trans (b:=[.int .i64 8,.agg ([Value.agg (phL (nilL (acc++chT x y 7))).toArray].flatMap SX.cellsV).toArray]) (by kernel_rfl) (by rw [show chT x y 8=chT x y 7 from chT_same (k:=7) (by show setF zeroSg 8 x=setF zeroSg 8 y;simpa [setF,zeroSg]using h59)];simp [SX.cellsV]),by omega⟩,cast (by kernel_rfl) (show 8-(8:Int).toNat<8-(7:Int).toNat by decide)⟩
    try simp only [NRM]at h59
    refine SX.VC_df (Value.agg (phL [nilP ((⟨0,1,x.id,8,setF zeroSg 8 y,[]⟩:Pt))]).toArray) (fun α=>SX.app_rel (f:=cellsH) (l1:=nilL (acc++chT x y 7)) (l2:=[nilP ((⟨0,1,x.id,8,setF zeroSg 8 y,[]⟩:Pt))]) (fun _=>rfl) cellsH_one (by decide) (SX.cat1 (by kernel_rfl)) (SX.src_own (by kernel_rfl)) (by have:=chT_len x y 8;have:=chT_len x y 7;simp only [nilL,List.length_map,List.length_append,List.length_cons,List.length_nil];omega) (by have:=chT_len x y 8;have:=chT_len x y 7;simp only [nilL,List.length_map,List.length_append,List.length_cons,List.length_nil];omega)) (rfl) ?_
    exact SX.VC_again fun α=>⟨⟨8,Eq.trans (b:=[.int .i64 8,.agg ([Value.agg (phL (nilL (acc++chT x y 7))).toArray,Value.agg (phL [nilP (⟨0,1,x.id,8,setF zeroSg 8 y,[]⟩:Pt)]).toArray].flatMap SX.cellsV).toArray]) (by kernel_rfl) (by rw [show chT x y 8=chT x y 7++[(⟨0,1,x.id,8,setF zeroSg 8 y,[]⟩:Pt)] from chT_other (k:=7) (by show ¬ setF zeroSg 8 x=setF zeroSg 8 y;simpa [setF,zeroSg]using h59)];simp [SX.cellsV,nilL_app,phL_app,nilL]),by omega⟩,cast (by kernel_rfl) (show 8-(8:Int).toNat<8-(7:Int).toNat by decide)⟩
   try simp only [NRM]at h58
   have e8:k2=8:=by omega
   subst e8
   refine SX.E (.bool (true ^^ decide ((x.fn,x.fd)=(y.fn,y.fd)))) (fun α=>SX.eqr_rel (f:=cells2) cells2_inj (y:=(x.fn,x.fd)) (z:=(y.fn,y.fd)) (by kernel_rfl) (by kernel_rfl) (by kernel_rfl)) ?_
   refine SX.B (true ^^ decide ((x.fn,x.fd)=(y.fn,y.fd))) (fun h59=>?_) (fun h59=>?_)
   ·try simp only [NRM]at h59
    have hsp:¬ setF zeroSg 9 x=setF zeroSg 9 y:=fun hk=>by
     have:=(span_iff.1 hk).1
     simp [this]at h59
    refine SX.VC_df (Value.agg (phL [nilP ((⟨0,1,x.id,9,setF zeroSg 9 y,[]⟩:Pt))]).toArray) (fun α=>SX.app_rel (f:=cellsH) (l1:=nilL (acc++chT x y 8)) (l2:=[nilP ((⟨0,1,x.id,9,setF zeroSg 9 y,[]⟩:Pt))]) (fun _=>rfl) cellsH_one (by decide) (SX.cat1 (by kernel_rfl)) (SX.src_own (by kernel_rfl)) (by have:=chT_len x y 8;have:=chT_len x y 8;simp only [nilL,List.length_map,List.length_append,List.length_cons,List.length_nil];omega) (by have:=chT_len x y 8;have:=chT_len x y 8;simp only [nilL,List.length_map,List.length_append,List.length_cons,List.length_nil];omega)) (rfl) ?_
    refine SX.VC_df (.agg (((a1).drop 1).flatMap cellsSg).toArray) (fun α=>SX.slcxD (f:=cellsSg) (l:=a1) (k:=1) (fun _=>rfl) (by decide) (SX.cat1 (by kernel_rfl)) (by kernel_rfl) (by have:=(List.getElem?_eq_some_iff.1 hx).1;omega)) (rfl) ?_
    refine SX.VC_df (.agg (((b1).drop 1).flatMap cellsSg).toArray) (fun α=>SX.slcxD (f:=cellsSg) (l:=b1) (k:=1) (fun _=>rfl) (by decide) (SX.cat1 (by kernel_rfl)) (by kernel_rfl) (by have:=(List.getElem?_eq_some_iff.1 hy).1;omega)) (rfl) ?_
    exact SX.VC_again fun α=>⟨⟨(a1).drop 1,(b1).drop 1,acc++chP x y,Eq.trans (b:=[.agg ([Value.agg (sgsL ((a1).drop 1)).toArray].flatMap SX.cellsV).toArray,.agg ([Value.agg (sgsL ((b1).drop 1)).toArray].flatMap SX.cellsV).toArray,.agg ([Value.agg (phL (nilL (acc++chT x y 8))).toArray,Value.agg (phL [nilP ((⟨0,1,x.id,9,setF zeroSg 9 y,[]⟩:Pt))]).toArray].flatMap SX.cellsV).toArray]) (by kernel_rfl) (by rw [show acc++chP x y=(acc++chT x y 8)++[⟨0,1,x.id,9,setF zeroSg 9 y,[]⟩] from by rw [List.append_assoc,show chP x y=_ from chT_other (k:=8) hsp];rfl];simp [SX.cellsV,nilL_app,phL_app,nilL]),mrg_step hm (mrg_chD hx hy hid hkd),by have q1:=(List.getElem?_eq_some_iff.1 hx).1;have q2:=(List.getElem?_eq_some_iff.1 hy).1;have q3:(chP x y).length≤9:=chT_len x y 9;simp only [LL];omega⟩,cast (by kernel_rfl) (show([Value.agg (sgsL ((a1).drop 1)).toArray].flatMap SX.cellsV).toArray.size+([Value.agg (sgsL ((b1).drop 1)).toArray].flatMap SX.cellsV).toArray.size<(sgsL a1).toArray.size+(sgsL b1).toArray.size from by have q1:=(List.getElem?_eq_some_iff.1 hx).1;have q2:=(List.getElem?_eq_some_iff.1 hy).1;simp only [List.flatMap_cons,List.flatMap_nil,List.append_nil,SX.cellsV,List.toList_toArray,List.size_toArray,sgsL_len,List.length_drop];omega)⟩
   try simp only [NRM]at h59
   refine SX.E (.bool (true ^^ decide ((x.tn,x.td)=(y.tn,y.td)))) (fun α=>SX.eqr_rel (f:=cells2) cells2_inj (y:=(x.tn,x.td)) (z:=(y.tn,y.td)) (by kernel_rfl) (by kernel_rfl) (by kernel_rfl)) ?_
   refine SX.B (true ^^ decide ((x.tn,x.td)=(y.tn,y.td))) (fun h60=>?_) (fun h60=>?_)
   ·try simp only [NRM]at h60
    have hsp:¬ setF zeroSg 9 x=setF zeroSg 9 y:=fun hk=>by
     have:=(span_iff.1 hk).2
     simp [this]at h60
    refine SX.VC_df (Value.agg (phL [nilP ((⟨0,1,x.id,9,setF zeroSg 9 y,[]⟩:Pt))]).toArray) (fun α=>SX.app_rel (f:=cellsH) (l1:=nilL (acc++chT x y 8)) (l2:=[nilP ((⟨0,1,x.id,9,setF zeroSg 9 y,[]⟩:Pt))]) (fun _=>rfl) cellsH_one (by decide) (SX.cat1 (by kernel_rfl)) (SX.src_own (by kernel_rfl)) (by have:=chT_len x y 8;have:=chT_len x y 8;simp only [nilL,List.length_map,List.length_append,List.length_cons,List.length_nil];omega) (by have:=chT_len x y 8;have:=chT_len x y 8;simp only [nilL,List.length_map,List.length_append,List.length_cons,List.length_nil];omega)) (rfl) ?_
    refine SX.VC_df (.agg (((a1).drop 1).flatMap cellsSg).toArray) (fun α=>SX.slcxD (f:=cellsSg) (l:=a1) (k:=1) (fun _=>rfl) (by decide) (SX.cat1 (by kernel_rfl)) (by kernel_rfl) (by have:=(List.getElem?_eq_some_iff.1 hx).1;omega)) (rfl) ?_
    refine SX.VC_df (.agg (((b1).drop 1).flatMap cellsSg).toArray) (fun α=>SX.slcxD (f:=cellsSg) (l:=b1) (k:=1) (fun _=>rfl) (by decide) (SX.cat1 (by kernel_rfl)) (by kernel_rfl) (by have:=(List.getElem?_eq_some_iff.1 hy).1;omega)) (rfl) ?_
    exact SX.VC_again fun α=>⟨⟨(a1).drop 1,(b1).drop 1,acc++chP x y,Eq.trans (b:=[.agg ([Value.agg (sgsL ((a1).drop 1)).toArray].flatMap SX.cellsV).toArray,.agg ([Value.agg (sgsL ((b1).drop 1)).toArray].flatMap SX.cellsV).toArray,.agg ([Value.agg (phL (nilL (acc++chT x y 8))).toArray,Value.agg (phL [nilP ((⟨0,1,x.id,9,setF zeroSg 9 y,[]⟩:Pt))]).toArray].flatMap SX.cellsV).toArray]) (by kernel_rfl) (by rw [show acc++chP x y=(acc++chT x y 8)++[⟨0,1,x.id,9,setF zeroSg 9 y,[]⟩] from by rw [List.append_assoc,show chP x y=_ from chT_other (k:=8) hsp];rfl];simp [SX.cellsV,nilL_app,phL_app,nilL]),mrg_step hm (mrg_chD hx hy hid hkd),by have q1:=(List.getElem?_eq_some_iff.1 hx).1;have q2:=(List.getElem?_eq_some_iff.1 hy).1;have q3:(chP x y).length≤9:=chT_len x y 9;simp only [LL];omega⟩,cast (by kernel_rfl) (show([Value.agg (sgsL ((a1).drop 1)).toArray].flatMap SX.cellsV).toArray.size+([Value.agg (sgsL ((b1).drop 1)).toArray].flatMap SX.cellsV).toArray.size<(sgsL a1).toArray.size+(sgsL b1).toArray.size from by have q1:=(List.getElem?_eq_some_iff.1 hx).1;have q2:=(List.getElem?_eq_some_iff.1 hy).1;simp only [List.flatMap_cons,List.flatMap_nil,List.append_nil,SX.cellsV,List.toList_toArray,List.size_toArray,sgsL_len,List.length_drop];omega)⟩
   try simp only [NRM]at h60
   have hsp:setF zeroSg 9 x=setF zeroSg 9 y:=span_iff.2 ⟨by simpa using h59,by simpa using h60⟩
   refine SX.VC_df (.agg (((a1).drop 1).flatMap cellsSg).toArray) (fun α=>SX.slcxD (f:=cellsSg) (l:=a1) (k:=1) (fun _=>rfl) (by decide) (SX.cat1 (by kernel_rfl)) (by kernel_rfl) (by have:=(List.getElem?_eq_some_iff.1 hx).1;omega)) (rfl) ?_
   refine SX.VC_df (.agg (((b1).drop 1).flatMap cellsSg).toArray) (fun α=>SX.slcxD (f:=cellsSg) (l:=b1) (k:=1) (fun _=>rfl) (by decide) (SX.cat1 (by kernel_rfl)) (by kernel_rfl) (by have:=(List.getElem?_eq_some_iff.1 hy).1;omega)) (rfl) ?_
   exact SX.VC_again fun α=>⟨⟨(a1).drop 1,(b1).drop 1,acc++chP x y,Eq.trans (b:=[.agg ([Value.agg (sgsL ((a1).drop 1)).toArray].flatMap SX.cellsV).toArray,.agg ([Value.agg (sgsL ((b1).drop 1)).toArray].flatMap SX.cellsV).toArray,.agg ([Value.agg (phL (nilL (acc++chT x y 8))).toArray].flatMap SX.cellsV).toArray]) (by kernel_rfl) (by rw [show acc++chP x y=acc++chT x y 8 from by rw [show chP x y=_ from chT_same (k:=8) hsp]];simp [SX.cellsV,nilL_app,phL_app,nilL]),mrg_step hm (mrg_chD hx hy hid hkd),by have q1:=(List.getElem?_eq_some_iff.1 hx).1;have q2:=(List.getElem?_eq_some_iff.1 hy).1;have q3:(chP x y).length≤9:=chT_len x y 9;simp only [LL];omega⟩,cast (by kernel_rfl) (show([Value.agg (sgsL ((a1).drop 1)).toArray].flatMap SX.cellsV).toArray.size+([Value.agg (sgsL ((b1).drop 1)).toArray].flatMap SX.cellsV).toArray.size<(sgsL a1).toArray.size+(sgsL b1).toArray.size from by have q1:=(List.getElem?_eq_some_iff.1 hx).1;have q2:=(List.getElem?_eq_some_iff.1 hy).1;simp only [List.flatMap_cons,List.flatMap_nil,List.append_nil,SX.cellsV,List.toList_toArray,List.size_toArray,sgsL_len,List.length_drop];omega)⟩
  try simp only [NRM]at h24
  refine SX.E (.int .i64 ((((b1).length:Nat):Int))) (fun α=>SX.rlenD (f:=cellsSg) (l:=b1) (fun _=>rfl) (by decide) (SX.cat1 (by kernel_rfl))) ?_
  refine SX.D (.bool (decide ((((b1).length:Nat):Int)>0))) ?_
  refine SX.B (decide ((((b1).length:Nat):Int)>0)) (fun h26=>?_) (fun h26=>?_)
  ·try simp only [NRM]at h26
   refine SX.E (.int .i64 ((((b1).length:Nat):Int))) (fun α=>SX.rlenD (f:=cellsSg) (l:=b1) (fun _=>rfl) (by decide) (SX.cat1 (by kernel_rfl))) ?_
   refine SX.D (.bool (((((b1).length:Nat):Int):Int) == 0)) ?_
   refine SX.B (((((b1).length:Nat):Int):Int) == 0) (fun h28=>absurd (beq_iff_eq.1 h28) (by omega)) (fun h28=>?_)
   refine SX.E (.int .i64 ((((a1).length:Nat):Int))) (fun α=>SX.rlenD (f:=cellsSg) (l:=a1) (fun _=>rfl) (by decide) (SX.cat1 (by kernel_rfl))) ?_
   refine SX.D (.bool (decide ((((a1).length:Nat):Int)>0))) ?_
   refine SX.B (decide ((((a1).length:Nat):Int)>0)) (fun h30=>absurd (of_decide_eq_true h30) (by omega)) (fun h30=>?_)
   refine SX.E (.int .i64 ((((a1).length:Nat):Int))) (fun α=>SX.rlenD (f:=cellsSg) (l:=a1) (fun _=>rfl) (by decide) (SX.cat1 (by kernel_rfl))) ?_
   refine SX.D (.bool (((((a1).length:Nat):Int):Int) == 0)) ?_
   refine SX.B (((((a1).length:Nat):Int):Int) == 0) (fun h32=>?_) (fun h32=>absurd (show((((a1).length:Nat):Int):Int)=0 by omega) (ne_of_beq_false h32))
   obtain⟨y,hy⟩:∃ y,b1[0]?=some y:=⟨_,List.getElem?_eq_getElem (by omega)⟩
   have hid:∀ x,a1[0]?=some x→y.id<x.id:=fun x hx=>(no_head (by omega) hx).elim
   refine SX.E (.bool true) (fun α=>SX.row_bnd (f:=cellsSg) (l:=b1) (k:=0) (fun _=>rfl) (by decide) (SX.cat1 (by kernel_rfl)) (by kernel_rfl) ((List.getElem?_eq_some_iff.1 hy).1)) ?_
   refine SX.E (.bool true) (fun α=>SX.row_bnd (f:=cellsSg) (l:=b1) (k:=0) (fun _=>rfl) (by decide) (SX.cat1 (by kernel_rfl)) (by kernel_rfl) ((List.getElem?_eq_some_iff.1 hy).1)) ?_
   refine SX.E (.int .i64 y.id) (fun α=>SX.relemD (f:=cellsSg) (l:=b1) (k:=0) (z:=y) (v:=.int .i64 y.id) (fun _=>rfl) (by decide) (SX.cat1 (by kernel_rfl)) (by kernel_rfl) hy rfl) ?_
   refine SX.E (.bool true) (fun α=>SX.row_bnd (f:=cellsSg) (l:=b1) (k:=0) (fun _=>rfl) (by decide) (SX.cat1 (by kernel_rfl)) (by kernel_rfl) ((List.getElem?_eq_some_iff.1 hy).1)) ?_
   refine SX.E (.agg (cellsSg y).toArray) (fun α=>SX.row_elems (f:=cellsSg) (l:=b1) (k:=0) (z:=y) (fun _=>rfl) (by decide) (SX.cat1 (by kernel_rfl)) (by kernel_rfl) hy) ?_
   refine SX.VC_df (Value.agg (phL [nilP (insP y)]).toArray) (fun α=>SX.app_rel (f:=cellsH) (l1:=nilL acc) (l2:=[nilP (insP y)]) (fun _=>rfl) cellsH_one (by decide) (SX.cat1 (by kernel_rfl)) (SX.src_own (by kernel_rfl)) (by simp only [nilL,List.length_map,List.length_cons,List.length_nil];omega) (by simp only [nilL,List.length_map,List.length_cons,List.length_nil];omega)) (rfl) ?_
   refine SX.VC_df (.agg (((b1).drop 1).flatMap cellsSg).toArray) (fun α=>SX.slcxD (f:=cellsSg) (l:=b1) (k:=1) (fun _=>rfl) (by decide) (SX.cat1 (by kernel_rfl)) (by kernel_rfl) (by have:=(List.getElem?_eq_some_iff.1 hy).1;omega)) (rfl) ?_
   exact SX.VC_again fun α=>⟨⟨a1,(b1).drop 1,acc++[insP y],Eq.trans (b:=[.agg ([Value.agg (sgsL (a1)).toArray].flatMap SX.cellsV).toArray,.agg ([Value.agg (sgsL ((b1).drop 1)).toArray].flatMap SX.cellsV).toArray,.agg ([Value.agg (phL (nilL acc)).toArray,Value.agg (phL [nilP (insP y)]).toArray].flatMap SX.cellsV).toArray]) (by kernel_rfl) (by simp [SX.cellsV,nilL_app,phL_app,nilL]),mrg_step hm (mrg_inD hy hid),by have q2:=(List.getElem?_eq_some_iff.1 hy).1;simp only [LL];omega⟩,cast (by kernel_rfl) (show([Value.agg (sgsL (a1)).toArray].flatMap SX.cellsV).toArray.size+([Value.agg (sgsL ((b1).drop 1)).toArray].flatMap SX.cellsV).toArray.size<(sgsL a1).toArray.size+(sgsL b1).toArray.size from by have q2:=(List.getElem?_eq_some_iff.1 hy).1;simp only [List.flatMap_cons,List.flatMap_nil,List.append_nil,SX.cellsV,List.toList_toArray,List.size_toArray,sgsL_len,List.length_drop];omega)⟩
  try simp only [NRM]at h26
  refine SX.E (.int .i64 ((((nilL acc).length:Nat):Int))) (fun α=>SX.rlenD (f:=cellsH) (l:=nilL acc) (fun _=>rfl) (by decide) (SX.cat1 (by kernel_rfl))) ?_
  refine SX.D (.bool (decide ((((nilL acc).length:Nat):Int)>512))) ?_
  refine SX.B (decide ((((nilL acc).length:Nat):Int)>512)) (fun h28=>?_) (fun h28=>?_)
  ·try simp only [NRM]at h28
   have hq:diffR a b first needs=([],2):=by
    have q1:a1=[]:=List.length_eq_zero_iff.1 (by omega)
    have q2:b1=[]:=List.length_eq_zero_iff.1 (by omega)
    rw [hD0,hm,q1,q2,mrg_nil]
    show(if 512<(acc++([]:List Pt)).length∨_ then _ else _)=_
    rw [if_pos (by simp only [List.nil_append,List.append_nil];(try simp at h28);omega)]
   exact SX.VC_ret fun α W _ hrow hS=>⟨hS.below,.slice none 0 0,[],Eq.trans (b:=Ending.returned (.tuple #[.slice none 0 0,.int .i64 (2)])) (by kernel_rfl) (by rw [hq]),by rw [hq];rfl,by rw [hq];exact SX.SlRet.nil,fun h hh=>nomatch hh⟩
  try simp only [NRM]at h28
  refine SX.E (.int .i64 ((((nilL acc).length:Nat):Int))) (fun α=>SX.rlenD (f:=cellsH) (l:=nilL acc) (fun _=>rfl) (by decide) (SX.cat1 (by kernel_rfl))) ?_
  have hfr:1≤first∧first≤1048576:=hfs.1
  have h28n:acc.length≤512:=by(try simp at h28);omega
  refine SX.E (.int .i64 (first+(((nilL acc).length:Nat):Int))) (fun α=>Eq.trans (b:=some (.int .i64 (IntKind.i64.wrap (first+(((nilL acc).length:Nat):Int))))) (by kernel_rfl) (by rw [wrap_i64 (by omega) (by omega)])) ?_
  refine SX.E (.int .i64 (first+(((nilL acc).length:Nat):Int)-1)) (fun α=>Eq.trans (b:=some (.int .i64 (IntKind.i64.wrap (first+(((nilL acc).length:Nat):Int)-1)))) (by kernel_rfl) (by rw [wrap_i64 (by omega) (by omega)])) ?_
  refine SX.D (.bool (decide (first+(((nilL acc).length:Nat):Int)-1>1048576))) ?_
  refine SX.B (decide (first+(((nilL acc).length:Nat):Int)-1>1048576)) (fun h32=>?_) (fun h32=>?_)
  ·try simp only [NRM]at h32
   have hq:diffR a b first needs=([],2):=by
    have q1:a1=[]:=List.length_eq_zero_iff.1 (by omega)
    have q2:b1=[]:=List.length_eq_zero_iff.1 (by omega)
    rw [hD0,hm,q1,q2,mrg_nil]
    show(if 512<(acc++([]:List Pt)).length∨_ then _ else _)=_
    rw [if_pos (by simp only [List.nil_append,List.append_nil];(try simp at h32);omega)]
   exact SX.VC_ret fun α W _ hrow hS=>⟨hS.below,.slice none 0 0,[],Eq.trans (b:=Ending.returned (.tuple #[.slice none 0 0,.int .i64 (2)])) (by kernel_rfl) (by rw [hq]),by rw [hq];rfl,by rw [hq];exact SX.SlRet.nil,fun h hh=>nomatch hh⟩
  try simp only [NRM]at h32
  refine SX.E (.int .i64 ((((nilL acc).length:Nat):Int))) (fun α=>SX.rlenD (f:=cellsH) (l:=nilL acc) (fun _=>rfl) (by decide) (SX.cat1 (by kernel_rfl))) ?_
  have hmm:mrg a b=some acc:=by
   have q1:a1=[]:=List.length_eq_zero_iff.1 (by omega)
   have q2:b1=[]:=List.length_eq_zero_iff.1 (by omega)
   rw [hm,q1,q2,mrg_nil];simp
  have hq:diffR a b first needs=(num first needs 0 acc,0):=by
   rw [hD0,hmm]
   show(if 512<acc.length∨1048576<first+(acc.length:Int)-1 then(([]:List Pt),(2:Int))else(num first needs 0 acc,0))=_
   rw [if_neg (by(try simp at h28);(try simp at h32);omega)]
  refine SX.VC_loopN (fun xs N=>∃ hs:List Hd,xs=[.int .i64 ((hs.length:Nat):Int),.agg (phL (doneL first needs acc hs)).toArray]∧hs.length≤acc.length∧∀ h∈hs,(⟨Hd.v h,1,intsL needs⟩:SX.Arg)∈N) (fun xs=>match xs with|.int _ i::_=>acc.length-i.toNat|_=>0) (fun _=>rfl) (fun α=>⟨[],(fun y hy=>nomatch hy),[],Eq.trans (b:=[.int .i64 0,.agg ([Value.agg (phL (nilL acc)).toArray].flatMap SX.cellsV).toArray]) (by kernel_rfl) (by simp [SX.cellsV,doneL_nil]),by simp,fun h hh=>nomatch hh⟩) ?_
  rintro xs N-⟨hs,rfl,hle,hN⟩
  refine SX.D (.bool (decide (((hs.length:Nat):Int)<(((nilL acc).length:Nat):Int)))) ?_
  refine SX.B (decide (((hs.length:Nat):Int)<(((nilL acc).length:Nat):Int))) (fun h36=>?_) (fun h36=>?_)
  ·try simp only [NRM]at h36
   refine SX.E (.int .i64 (first+((hs.length:Nat):Int))) (fun α=>SX.W (first+((hs.length:Nat):Int))) ?_
   obtain⟨p,hp⟩:∃ p,acc[hs.length]?=some p:=⟨_,List.getElem?_eq_getElem (by omega)⟩
   have hdl:=doneL_len (first:=first) (needs:=needs) hle
   have hdp:=doneL_at (first:=first) (needs:=needs) hp
   refine SX.VC_dn (fun v N3=>∃ A2 n2 c2,v=.slice A2 n2 c2∧N3=[⟨.slice A2 n2 c2,1,intsL needs⟩]) (fun _=>rfl) (fun α=>⟨[⟨.slice D k e,1,intsL needs⟩],⟨by kernel_rfl,by kernel_rfl,K_ofD (y:=⟨.slice D k e,1,intsL needs⟩) (by kernel_rfl) (.inl (.inr (.inr ⟨rfl,rfl,rfl⟩))),trivial⟩,rfl,_,needs,rfl,by omega,fun A2 n2 c2=>⟨A2,n2,c2,rfl,rfl⟩⟩) ?_
   rintro _ _-⟨A2,n2,c2,rfl,rfl⟩
   refine SX.E (.bool true) (fun α=>SX.row_bnd (f:=cellsH) (l:=doneL first needs acc hs) (k:=hs.length) (fun _=>rfl) (by decide) (SX.cat1 (by kernel_rfl)) (by kernel_rfl) (by(try simp only [List.length_set]);omega)) ?_
   refine SX.E (.bool true) (fun α=>SX.row_bnd (f:=cellsH) (l:=doneL first needs acc hs) (k:=hs.length) (fun _=>rfl) (by decide) (SX.cat1 (by kernel_rfl)) (by kernel_rfl) (by(try simp only [List.length_set]);omega)) ?_
   refine SX.VC_df (.agg (((doneL first needs acc hs).set hs.length (nilP {p with id:=first+(hs.length:Int),needs:=needs})).flatMap cellsH).toArray) (fun α=>SX.rsetD (f:=cellsH) (l:=doneL first needs acc hs) (k:=hs.length) (y:=nilP p) (z:=nilP {p with id:=first+(hs.length:Int),needs:=needs}) (fun _=>rfl) (by decide) (SX.cat1 (by kernel_rfl)) (by kernel_rfl) hdp (by decide) (by kernel_rfl)) (rfl) ?_
   refine SX.E (.bool true) (fun α=>SX.row_bnd (f:=cellsH) (l:=doneL first needs acc hs) (k:=hs.length) (fun _=>rfl) (by decide) (SX.cat1 (by kernel_rfl)) (by kernel_rfl) (by(try simp only [List.length_set]);omega)) ?_
   refine SX.E (.bool true) (fun α=>SX.row_bnd (f:=cellsH) (l:=doneL first needs acc hs) (k:=hs.length) (fun _=>rfl) (by decide) (SX.cat1 (by kernel_rfl)) (by kernel_rfl) (by(try simp only [List.length_set]);omega)) ?_
   refine SX.VC_df (.agg ((((doneL first needs acc hs).set hs.length (nilP {p with id:=first+(hs.length:Int),needs:=needs})).set hs.length ((({p with id:=first+(hs.length:Int),needs:=needs},A2,n2,c2):Ph))).flatMap cellsH).toArray) (fun α=>SX.rsetD (f:=cellsH) (l:=(doneL first needs acc hs).set hs.length (nilP {p with id:=first+(hs.length:Int),needs:=needs})) (k:=hs.length) (y:=nilP {p with id:=first+(hs.length:Int),needs:=needs}) (z:=(({p with id:=first+(hs.length:Int),needs:=needs},A2,n2,c2):Ph)) (fun _=>rfl) (by decide) (SX.cat1 (by kernel_rfl)) (by kernel_rfl) (List.getElem?_set_self (by omega)) (by decide) (by kernel_rfl)) (rfl) ?_
   refine SX.E (.int .i64 (((hs.length+1:Nat):Int))) (fun α=>Eq.trans (b:=some (.int .i64 (IntKind.i64.wrap ((hs.length:Nat)+1)))) (by kernel_rfl) (by rw [show((hs.length+1:Nat):Int)=((hs.length:Nat):Int)+1 by omega,wrap_i64 (by omega) (by omega)])) ?_
   exact SX.VC_again fun α=>⟨rfl,_,(fun y hy=>hy),⟨hs++[(A2,n2,c2)],Eq.trans (b:=[.int .i64 ((hs.length+1:Nat):Int),.agg ([Value.agg (phL (((doneL first needs acc hs).set hs.length (nilP {p with id:=first+(hs.length:Int),needs:=needs})).set hs.length ({p with id:=first+(hs.length:Int),needs:=needs},A2,n2,c2))).toArray].flatMap SX.cellsV).toArray]) (by kernel_rfl) (by rw [doneL_set hp];simp [SX.cellsV]),by rw [List.length_append,List.length_singleton];omega,fun h hh=>by
    rcases List.mem_append.1 hh with hh|hh
    ·exact List.mem_append_right _ (hN h hh)
    obtain rfl:=List.mem_singleton.1 hh
    exact List.mem_append_left _ (List.mem_singleton.2 rfl)⟩,cast (by kernel_rfl) (show acc.length-((hs.length+1:Nat):Int).toNat<acc.length-((hs.length:Nat):Int).toNat by omega)⟩
  try simp only [NRM]at h36
  have hal:hs.length=acc.length:=by omega
  refine SX.VC_ret fun α W _ hrow hS=>⟨hS.below,_,hs,Eq.trans (b:=Ending.returned (.tuple #[(α 11).h,.int .i64 0])) (by kernel_rfl) (by rw [hq]),by rw [hq];simp only [num_len];exact hal,?_,fun h hh=>?_⟩
  ·rw [hq]
   exact SX.SlRet.row hS (n:=11) (b:=(⟨[(.x 35 [])],55,(.row 19)⟩:SX.Blk)) (by kernel_rfl) rfl (hrow 11 _ (by kernel_rfl)) (Eq.trans (b:=[Value.agg (phL (doneL first needs acc hs)).toArray].flatMap SX.cellsV) (by kernel_rfl) (by rw [doneL_all hal];simp [SX.cellsV]))
  have hN2:=hS.fact (p:=SX.NF _) (List.mem_append.2 (.inr (List.mem_cons_of_mem _ (List.mem_cons_self ..)))) ⟨Hd.v h,1,intsL needs⟩ (hN h hh)
  exact⟨⟨h.1,h.2.1,h.2.2,rfl,hN2.1.2⟩,hN2.1,.inl hN2.2⟩
 try simp only [NRM]at h15
 have hq:diffR a b first needs=([],360):=diffR_i (by simpa using h6) (by simpa using h7) (by(try simp at h9);omega) (fun hk=>by(try simp at h15);omega)
 exact SX.VC_ret fun α W _ hrow hS=>⟨hS.below,.slice none 0 0,[],Eq.trans (b:=Ending.returned (.tuple #[.slice none 0 0,.int .i64 (360)])) (by kernel_rfl) (by rw [hq]),by rw [hq];rfl,by rw [hq];exact SX.SlRet.nil,fun h hh=>nomatch hh⟩
def PutQ(nx:Nat)(l:List Qe)(key:Value)(cs:List Value)(nx':Nat)(l':List Qe):Prop:=((∀ q∈l,q.key≠key)∧nx'=nx+1∧l'=l++[⟨key,cs,nx⟩])∨∃ j q,l[j]?=some q∧q.key=key∧nx'=nx∧l'=l.set j ⟨key,cs,q.born⟩
def DelQ(l:List Qe)(key:Value)(l':List Qe):Prop:=((∀ q∈l,q.key≠key)∧l'=l)∨∃ j q,l[j]?=some q∧q.key=key∧l'=l.eraseIdx j
def updF{κ β:Type} [DecidableEq κ] (F:κ→Option β)(i:κ)(o:Option β):κ→Option β:=fun j=>if j=i then o else F j
theorem PutQ.keys{nx nx':Nat}{l l':List Qe}{key:Value}{cs:List Value}{G:Value→Prop}(h:PutQ nx l key cs nx' l')(hk:∀ e∈l,G e.key)(hg:G key):∀ e∈l',G e.key:=by
 rcases h with ⟨_,rfl,rfl⟩|⟨j,q,h1,h2,rfl,rfl⟩
 ·intro e he
  rcases List.mem_append.1 he with he|he
  ·exact hk e he
  obtain rfl:=List.mem_singleton.1 he;exact hg
 intro e he
 rcases List.mem_or_eq_of_mem_set he with he|rfl
 ·exact hk e he
 exact hg
theorem DelQ.keys{l l':List Qe}{key:Value}{G:Value→Prop}(h:DelQ l key l')(hk:∀ e∈l,G e.key):∀ e∈l',G e.key:=by
 rcases h with ⟨_,rfl⟩|⟨j,q,_,_,rfl⟩
 ·exact hk
 exact fun e he=>hk e (List.mem_of_mem_eraseIdx he)
structure FMap{κ β:Type}(key:κ→Value)(f:β→List Value)(l:List Qe)(F:κ→Option β):Prop where
 nod:(l.map Qe.key).Nodup
 ent:∀ e∈l,∃ i x,e.key=key i∧e.cs=f x∧F i=some x
 all:∀ i x,F i=some x→∃ e∈l,e.key=key i
section
variable {κ β:Type}{key:κ→Value}{f:β→List Value}{l:List Qe}{F:κ→Option β}{i:κ}
theorem FMap.zero:FMap key f [] fun _=>none:=⟨List.nodup_nil,(fun e he=>nomatch he),(fun i x h=>nomatch h)⟩
theorem FMap.no(h:FMap key f l F)(hk:∀ a b,key a=key b→a=b)(hF:F i=none):∀ q∈l,q.key≠key i:=fun q hq e=>by
 obtain⟨j,x,h1,h2,h3⟩:=h.ent q hq
 have:=hk _ _ (h1.symm.trans e)
 subst this
 rw [hF]at h3;cases h3
theorem FMap.yes(h:FMap key f l F)(hk:∀ a b,key a=key b→a=b){x:β}(hF:F i=some x):∃ q∈l,q.key=key i∧q.cs=f x:=by
 obtain⟨q,hq,h1⟩:=h.all i x hF
 obtain⟨j,y,h2,h3,h4⟩:=h.ent q hq
 have:=hk _ _ (h1.symm.trans h2)
 subst this
 rw [hF]at h4;cases h4
 exact⟨q,hq,h1,h3⟩
variable [DecidableEq κ]
theorem updF_at(F:κ→Option β)(i:κ)(o:Option β):updF F i o i=o:=if_pos rfl
theorem updF_ne(F:κ→Option β){i j:κ}(o:Option β)(h:j≠i):updF F i o j=F j:=if_neg h
theorem FMap.put(h:FMap key f l F)(hk:∀ a b,key a=key b→a=b)(nx:Nat)(i:κ)(x:β):∃ nx' l',PutQ nx l (key i) (f x) nx' l'∧FMap key f l' (updF F i (some x)):=by
 cases hF:F i with
 | none =>
  have hno:=h.no hk hF
  refine⟨_,_,.inl ⟨hno,rfl,rfl⟩,?_,fun e he=>?_,fun j y hj=>?_⟩
  ·rw [List.map_append,List.nodup_append]
   refine⟨h.nod,by simp,fun a ha b hb=>?_⟩
   obtain⟨q,hq,rfl⟩:=List.mem_map.1 ha
   simp only [List.map_cons,List.map_nil,List.mem_singleton]at hb
   rw [hb];exact hno q hq
  ·rcases List.mem_append.1 he with he|he
   ·obtain⟨j,y,h1,h2,h3⟩:=h.ent e he
    refine⟨j,y,h1,h2,?_⟩
    rw [updF_ne _ _ fun hj=>hno e he (by rw [h1,hj])];exact h3
   obtain rfl:=List.mem_singleton.1 he
   exact⟨i,x,rfl,rfl,updF_at ..⟩
  by_cases hji:j=i
  ·subst hji;exact⟨_,List.mem_append_right _ (List.mem_singleton.2 rfl),rfl⟩
  rw [updF_ne _ _ hji]at hj
  obtain⟨e,he,h1⟩:=h.all j y hj
  exact⟨e,List.mem_append_left _ he,h1⟩
 | some x0 =>
  obtain⟨q,hq,h1,h2⟩:=h.yes hk hF
  obtain⟨n,hn⟩:=List.getElem?_of_mem hq
  have hnl:=(List.getElem?_eq_some_iff.1 hn).1
  have hkeys:(l.set n (⟨key i,f x,q.born⟩:Qe)).map Qe.key=l.map Qe.key:=by
   rw [List.map_set]
   apply List.ext_getElem?
   intro m
   by_cases hm:n=m
   ·subst hm;rw [List.getElem?_set_self (by simpa using hnl),List.getElem?_map,hn];simp [h1]
   rw [List.getElem?_set_ne hm]
  refine⟨nx,_,.inr ⟨n,q,hn,h1,rfl,rfl⟩,by rw [hkeys];exact h.nod,fun e he=>?_,fun j y hj=>?_⟩
  ·obtain⟨m,hm⟩:=List.getElem?_of_mem he
   by_cases hnm:n=m
   ·subst hnm
    rw [List.getElem?_set_self hnl]at hm
    cases hm
    exact⟨i,x,rfl,rfl,updF_at ..⟩
   rw [List.getElem?_set_ne hnm]at hm
   obtain⟨j,y,h3,h4,h5⟩:=h.ent e (List.mem_of_getElem? hm)
   refine⟨j,y,h3,h4,?_⟩
   rw [updF_ne _ _ fun hj=>hnm (nodup_at h.nod hn hm (by rw [h1,h3,hj]))];exact h5
  by_cases hji:j=i
  ·subst hji;exact⟨_,List.mem_of_getElem? (List.getElem?_set_self hnl),rfl⟩
  rw [updF_ne _ _ hji]at hj
  obtain⟨e,he,h3⟩:=h.all j y hj
  obtain⟨m,hm⟩:=List.getElem?_of_mem he
  have hnm:n≠m:=fun hnm=>by subst hnm;rw [hn]at hm;cases hm;exact hji (hk _ _ (h3.symm.trans h1))
  exact⟨e,List.mem_of_getElem? ((List.getElem?_set_ne hnm).trans hm),h3⟩
theorem FMap.del(h:FMap key f l F)(hk:∀ a b,key a=key b→a=b)(i:κ):∃ l',DelQ l (key i) l'∧FMap key f l' (updF F i none):=by
 cases hF:F i with
 | none =>
  refine⟨_,.inl ⟨h.no hk hF,rfl⟩,h.nod,fun e he=>?_,fun j y hj=>?_⟩
  ·obtain⟨j,y,h1,h2,h3⟩:=h.ent e he
   refine⟨j,y,h1,h2,?_⟩
   rw [updF_ne _ _ fun hj=>h.no hk hF e he (by rw [h1,hj])];exact h3
  by_cases hji:j=i
  ·subst hji;rw [updF_at]at hj;cases hj
  rw [updF_ne _ _ hji]at hj;exact h.all j y hj
 | some x0 =>
  obtain⟨q,hq,h1,h2⟩:=h.yes hk hF
  obtain⟨n,hn⟩:=List.getElem?_of_mem hq
  have hmem:∀ e,e∈l.eraseIdx n↔e∈l∧e.key≠key i:=by
   intro e
   rw [List.mem_eraseIdx_iff_getElem?]
   constructor
   ·rintro⟨m,hm,he⟩
    exact⟨List.mem_of_getElem? he,fun hke=>hm (nodup_at h.nod he hn (hke.trans h1.symm))⟩
   rintro⟨he,hne⟩
   obtain⟨m,hm⟩:=List.getElem?_of_mem he
   exact⟨m,fun hmn=>by subst hmn;rw [hn]at hm;cases hm;exact hne h1,hm⟩
  refine⟨_,.inr ⟨n,q,hn,h1,rfl⟩,?_,fun e he=>?_,fun j y hj=>?_⟩
  ·exact h.nod.sublist ((List.eraseIdx_sublist ..).map _)
  ·obtain⟨h3,h4⟩:=(hmem e).1 he
   obtain⟨j,y,h5,h6,h7⟩:=h.ent e h3
   refine⟨j,y,h5,h6,?_⟩
   rw [updF_ne _ _ fun hj=>h4 (by rw [h5,hj])];exact h7
  by_cases hji:j=i
  ·subst hji;rw [updF_at]at hj;cases hj
  rw [updF_ne _ _ hji]at hj
  obtain⟨e,he,h3⟩:=h.all j y hj
  exact⟨e,(hmem e).2 ⟨he,fun h4=>hji (hk _ _ (h3.symm.trans h4))⟩,h3⟩
end
theorem nodup_len{γ:Type}:∀ {l m:List γ},l.Nodup→(∀ x∈l,x∈m)→l.length≤m.length
 | [],_,_,_=>Nat.zero_le _
 | x::l,m,h,hs=>by
  obtain⟨h1,h2⟩:=List.nodup_cons.1 h
  obtain⟨m1,m2,rfl⟩:=List.append_of_mem (hs x (List.mem_cons_self ..))
  have:=nodup_len (m:=m1++m2) h2 fun y hy=>by
   rcases List.mem_append.1 (hs y (List.mem_cons_of_mem _ hy))with h3|h3
   ·exact List.mem_append_left _ h3
   rcases List.mem_cons.1 h3 with rfl|h3
   ·exact(h1 hy).elim
   exact List.mem_append_right _ h3
  simp only [List.length_append,List.length_cons]at this ⊢
  omega
namespace SX
section
variable {C:Cx}{ρ:List Value}{α:Nat→AV}{κ β:Type}{key:κ→Value}{f:β→List Value}{l:List Qe}{F:κ→Option β}{i:κ}{kt:TypeId}{k nx:Nat}{c x:V}
theorem mapQ_of(h:FMap key f l F)(hf:∀ x,(f x).length=k){G:Value→Prop}(hK:KeyOk C.P kt G)(hk:∀ e∈l,G e.key)(hki:G (key i))(hc:cellsV (c.den ρ α)=qCells nx l)(hx:x.den ρ α=key i):MapQ C.P kt k (cellsV (c.den ρ α)) (x.den ρ α) nx l :=
 ⟨hc,fun e he=>by obtain⟨j,y,_,h2,_⟩:=h.ent e he;rw [h2];exact hf y,h.nod,G,hK,hk,by rw [hx];exact hki⟩
theorem mlk_rel{ok ag:Bool}{z v:Value}(h:FMap key f l F)(hinj:∀ a b,key a=key b→a=b)(hf:∀ x,(f x).length=k){G:Value→Prop}(hK:KeyOk C.P kt G)(hk:∀ e∈l,G e.key)(hki:G (key i))(hc:cellsV (c.den ρ α)=qCells nx l)(hx:x.den ρ α=key i)
 (hv:v=match F i with|some y=>if ok then .tuple #[elV ag (f y),.bool true]else elV ag (f y)|none=>if ok then .tuple #[z,.bool false]else z):Opq.rel C ρ α (.mlk ok kt k ag z) [c,x] v:=by
 refine⟨nx,l,mapQ_of h hf hK hk hki hc hx,?_⟩
 rw [hx]
 cases hF:F i with
 | none=>rw [hF]at hv;exact .inl ⟨h.no hinj hF,hv⟩
 | some y =>
  rw [hF]at hv
  obtain⟨q,hq,h1,h2⟩:=h.yes hinj hF
  exact .inr ⟨q,hq,h1,by rw [h2];exact hv⟩
theorem mset_rel{ag:Bool}{vs:List V}{y:β}{nx':Nat}{l':List Qe}(h:FMap key f l F)(hf:∀ x,(f x).length=k){G:Value→Prop}(hK:KeyOk C.P kt G)(hk:∀ e∈l,G e.key)(hki:G (key i))(hc:cellsV (c.den ρ α)=qCells nx l)(hx:x.den ρ α=key i)(hvs:denL ρ α vs=f y)(hp:PutQ nx l (key i) (f y) nx' l'):Opq.rel C ρ α (.mset kt k ag) (c::x::vs) (.agg (qCells nx' l').toArray):=by
 refine⟨nx,l,mapQ_of h hf hK hk hki hc hx,?_⟩
 rw [hx,hvs]
 rcases hp with ⟨h1,rfl,rfl⟩|⟨j,q,h1,h2,rfl,rfl⟩
 ·exact .inl ⟨h1,rfl⟩
 exact .inr ⟨j,q,h1,h2,rfl⟩
theorem mdel_rel{l':List Qe}(h:FMap key f l F)(hf:∀ x,(f x).length=k){G:Value→Prop}(hK:KeyOk C.P kt G)(hk:∀ e∈l,G e.key)(hki:G (key i))(hc:cellsV (c.den ρ α)=qCells nx l)(hx:x.den ρ α=key i)(hp:DelQ l (key i) l'):Opq.rel C ρ α (.mdel kt k) [c,x] (.agg (qCells nx l').toArray):=by
 refine⟨nx,l,mapQ_of h hf hK hk hki hc hx,?_⟩
 rw [hx]
 rcases hp with ⟨h1,rfl⟩|⟨j,q,h1,h2,rfl⟩
 ·exact .inl ⟨h1,rfl⟩
 exact .inr ⟨j,q,h1,h2,rfl⟩
theorem mln_rel(h:FMap key f l F)(hf:∀ x,(f x).length=k)(hc:cellsV (c.den ρ α)=qCells nx l):Opq.rel C ρ α (.mln k) [c] (.int .i64 ((l.length:Nat):Int)) :=
 ⟨nx,l,hc,fun e he=>by obtain⟨j,y,_,h2,_⟩:=h.ent e he;rw [h2];exact hf y,rfl⟩
theorem rdel_rel{γ:Type}{g:γ→List Value}{sz k:Nat}{L:List γ}{i j:V}(hg:∀ a,(g a).length=sz)(hone:∀ a,∀ u∈g a,u.oneCell'=true)(hc:cellsV (c.den ρ α)=L.flatMap g)(hi:i.den ρ α=.int .i64 (k:Int))(hj:j.den ρ α=.int .i64 ((k+1:Nat):Int))(hk:k<L.length):Opq.rel C ρ α (.rdel sz) [c,i,j] (.agg ((L.take k++L.drop (k+1)).flatMap g).toArray):=by
 refine⟨k,hi,hj,?_,?_,?_⟩
 ·rw [hc,flat_len hg];exact Nat.mul_le_mul_right _ hk
 ·rw [hc];intro u hu
  obtain⟨a,_,ha⟩:=List.mem_flatMap.1 hu
  exact hone a u ha
 rw [hc,flat_drop hg,flat_take hg,List.flatMap_append]
theorem rcut_rel{γ:Type}{g:γ→List Value}{sz k:Nat}{L:List γ}{i:V}{up:Bool}{v:Value}(hg:∀ a,(g a).length=sz)(hc:cellsV (c.den ρ α)=L.flatMap g)(hi:i.den ρ α=.int .i64 (k:Int))(hk:k≤L.length):Opq.rel C ρ α (.rcut up sz) [c,i] v :=
 ⟨k,hi,by rw [hc,flat_len hg];exact Nat.mul_le_mul_right _ hk⟩
end
end SX
def findO(ss:List Sg)(id:Int):Option Sg:=ss.find? fun s=>decide (s.id=id)
theorem findO_none{ss:List Sg}{id:Int}:findO ss id=none↔∀ z∈ss,z.id≠id:=by
 unfold findO
 rw [List.find?_eq_none]
 simp
theorem okL_tail{x:Sg}{l:List Sg}(h:okL (x::l)):okL l∧∀ y∈l,x.id<y.id :=
 ⟨⟨fun s hs=>h.1 s (List.mem_cons_of_mem _ hs),(List.pairwise_cons.1 h.2).2⟩,(List.pairwise_cons.1 h.2).1⟩
theorem setF_cases(f:Int):(f=1∨f=2∨f=3∨f=4∨f=5∨f=6∨f=7∨f=8∨f=9)∨∀ x y,setF x f y=x:=by
 by_cases h:f=1∨f=2∨f=3∨f=4∨f=5∨f=6∨f=7∨f=8∨f=9
 ·exact .inl h
 refine .inr fun x y=>?_
 unfold setF
 rw [if_neg (by omega),if_neg (by omega),if_neg (by omega),if_neg (by omega),if_neg (by omega),if_neg (by omega),if_neg (by omega),if_neg (by omega),if_neg (by omega)]
theorem setF_of{x y z:Sg}{f:Int}:setF x f (setF y f z)=setF x f z:=by
 rcases setF_cases f with hf|hf
 ·rcases hf with rfl|rfl|rfl|rfl|rfl|rfl|rfl|rfl|rfl<;>simp [setF]
 rw [hf,hf]
theorem setF_id{x y:Sg}{f:Int}:(setF x f y).id=x.id:=by
 unfold setF;repeat' split
 all_goals rfl
def updP(p:Pt)(o:Option Sg):Option Sg:=if p.kind=1 then o.map fun z=>setF z p.field p.new else if p.kind=2 then some p.new else none
def preX(p:Pt)(o:Option Sg):Prop:=(p.kind=1∧o.isSome=true∧1≤p.field∧p.field≤9)∨(p.kind=2∧o=none∧p.new.id=p.sign)∨(p.kind=3∧o.isSome=true)
def goodId:Option Sg→List Pt→Option Sg→Prop
 | o,[],t=>o=t
 | o,p::q,t=>preX p o∧goodId (updP p o) q t
def ofS(id:Int)(l:List Pt):List Pt:=l.filter fun p=>decide (p.sign=id)
def mrgF(a b:List Sg)(id:Int):List Pt:=match findO a id,findO b id with
 | some x,some y=>chP x y
 | some x,none=>[remP x]
 | none,some y=>[insP y]
 | none,none=>[]
theorem findO_cons{x:Sg}{l:List Sg}{id:Int}:findO (x::l) id=if x.id=id then some x else findO l id:=by
 unfold findO
 rw [List.find?_cons]
 by_cases h:x.id=id<;>simp [h]
theorem findO_lt{l:List Sg}{id:Int}(h:∀ y∈l,id<y.id):findO l id=none:=findO_none.2 fun z hz=>by have:=h z hz;omega
theorem ofS_chT(x y:Sg)(id:Int)(k:Nat):ofS id (chT x y k)=if x.id=id then chT x y k else []:=by
 induction k with
 | zero=>simp [chT,ofS]
 | succ k ih =>
  unfold ofS at ih ⊢
  simp only [chT,List.filter_append,ih]
  unfold chF
  by_cases h:x.id=id
  ·rw [if_pos h,if_pos h]
   split<;>simp [h]
  rw [if_neg h,if_neg h]
  split<;>simp [h]
theorem ofS_app(id:Int)(l m:List Pt):ofS id (l++m)=ofS id l++ofS id m:=by simp [ofS]
theorem ofS_one(id:Int)(p:Pt):ofS id [p]=if p.sign=id then [p]else []:=by unfold ofS;by_cases h:p.sign=id<;>simp [h]
theorem mrg_of:∀ {a b:List Sg}{l:List Pt},okL a→okL b→mrg a b=some l→∀ id,ofS id l=mrgF a b id∧∀ x y,findO a id=some x→findO b id=some y→x.kind=y.kind:=by
 intro a b
 induction h:a.length+b.length using Nat.strongRecOn generalizing a b with
 | ind n ih =>
  intro l ha hb hl id
  have hrm:∀ (x:Sg) (a':List Sg),a=x::a'→(∀ y∈b,x.id<y.id)→ofS id l=mrgF a b id∧∀ x y,findO a id=some x→findO b id=some y→x.kind=y.kind:=by
   rintro x a' rfl hlt
   rw [mrg_rm (fun y hy=>hlt y (List.mem_of_getElem? hy))]at hl
   obtain⟨l',h1,rfl⟩:=Option.map_eq_some_iff.1 hl
   obtain⟨ha1,ha2⟩:=okL_tail ha
   obtain⟨h2,h3⟩:=ih (a'.length+b.length) (by simp at h;omega) rfl ha1 hb h1 id
   have hc:ofS id (remP x::l')=ofS id [remP x]++ofS id l':=by rw [← ofS_app];rfl
   rw [hc,ofS_one,h2]
   unfold mrgF
   rw [findO_cons]
   by_cases e:x.id=id
   ·have q1:findO b id=none:=findO_lt fun y hy=>by have:=hlt y hy;omega
    have q2:findO a' id=none:=findO_lt fun y hy=>by have:=ha2 y hy;omega
    rw [if_pos e,if_pos (show(remP x).sign=id from e),q1,q2]
    exact⟨rfl,fun _ y _ h=>nomatch h⟩
   rw [if_neg e,if_neg (show ¬ (remP x).sign=id from e)]
   exact⟨rfl,h3⟩
  have hin:∀ (y:Sg) (b':List Sg),b=y::b'→(∀ x∈a,y.id<x.id)→ofS id l=mrgF a b id∧∀ x y,findO a id=some x→findO b id=some y→x.kind=y.kind:=by
   rintro y b' rfl hlt
   rw [mrg_in (fun x hx=>hlt x (List.mem_of_getElem? hx))]at hl
   obtain⟨l',h1,rfl⟩:=Option.map_eq_some_iff.1 hl
   obtain⟨hb1,hb2⟩:=okL_tail hb
   obtain⟨h2,h3⟩:=ih (a.length+b'.length) (by simp at h;omega) rfl ha hb1 h1 id
   have hc:ofS id (insP y::l')=ofS id [insP y]++ofS id l':=by rw [← ofS_app];rfl
   rw [hc,ofS_one,h2]
   unfold mrgF
   rw [findO_cons]
   by_cases e:y.id=id
   ·have q1:findO a id=none:=findO_lt fun x hx=>by have:=hlt x hx;omega
    have q2:findO b' id=none:=findO_lt fun x hx=>by have:=hb2 x hx;omega
    rw [if_pos e,if_pos (show(insP y).sign=id from e),q1,q2]
    exact⟨rfl,fun x _ h _=>nomatch h⟩
   rw [if_neg e,if_neg (show ¬ (insP y).sign=id from e)]
   exact⟨rfl,h3⟩
  cases a with
  | nil =>
   cases b with
   | nil =>
    rw [mrg_nil]at hl
    cases hl
    exact⟨rfl,fun x y h _=>nomatch h⟩
   | cons y b=>exact hin y b rfl fun x hx=>nomatch hx
  | cons x a =>
   cases b with
   | nil=>exact hrm x a rfl fun y hy=>nomatch hy
   | cons y b =>
    by_cases h1:x.id<y.id
    ·exact hrm x a rfl fun z hz=>by
      rcases List.mem_cons.1 hz with rfl|hz
      ·exact h1
      ·have:=(okL_tail hb).2 z hz;omega
    by_cases h2:y.id<x.id
    ·exact hin y b rfl fun z hz=>by
      rcases List.mem_cons.1 hz with rfl|hz
      ·exact h2
      ·have:=(okL_tail ha).2 z hz;omega
    have e:x.id=y.id:=by omega
    by_cases hk:x.kind=y.kind
    ·rw [mrg_ch e hk]at hl
     obtain⟨l',h3,rfl⟩:=Option.map_eq_some_iff.1 hl
     obtain⟨ha1,ha2⟩:=okL_tail ha
     obtain⟨hb1,hb2⟩:=okL_tail hb
     obtain⟨h4,h5⟩:=ih (a.length+b.length) (by simp at h;omega) rfl ha1 hb1 h3 id
     rw [ofS_app,show ofS id (chP x y)=if x.id=id then chP x y else [] from ofS_chT x y id 9,h4]
     unfold mrgF
     rw [findO_cons,findO_cons]
     by_cases ei:x.id=id
     ·have q1:findO a id=none:=findO_lt fun z hz=>by have:=ha2 z hz;omega
      have q2:findO b id=none:=findO_lt fun z hz=>by have:=hb2 z hz;omega
      rw [if_pos ei,if_pos ei,if_pos (e▸ei),q1,q2]
      exact⟨by simp,fun u v h6 h7=>by cases h6;cases h7;exact hk⟩
     rw [if_neg ei,if_neg ei,if_neg (fun h6=>ei (e.trans h6))]
     exact⟨by simp,h5⟩
    rw [mrg_no e hk]at hl;cases hl
def core(p:Pt):Pt:={p with id:=0,needs:=[]}
theorem num_core{first:Int}{needs:List Int}{k:Nat}{l:List Pt}(h:∀ p∈l,core p=p):(num first needs k l).map core=l:=by
 induction l generalizing k with
 | nil=>rfl
 | cons p l ih =>
  simp only [num,List.map_cons]
  rw [ih fun q hq=>h q (List.mem_cons_of_mem _ hq)]
  congr 1
  exact h p (List.mem_cons_self ..)
theorem chT_core(x y:Sg)(k:Nat):∀ p∈chT x y k,core p=p:=by
 induction k with
 | zero=>intro p hp;cases hp
 | succ k ih =>
  intro p hp
  rcases List.mem_append.1 hp with hp|hp
  ·exact ih p hp
  unfold chF at hp
  split at hp
  ·cases hp
  obtain rfl:=List.mem_singleton.1 hp;rfl
theorem chT_mem{x y:Sg}{k:Nat}{p:Pt}(h:p∈chT x y k):∃ f:Nat,1≤f∧f≤k∧p=⟨0,1,x.id,(f:Int),setF zeroSg (f:Int) y,[]⟩:=by
 induction k with
 | zero=>cases h
 | succ k ih =>
  rcases List.mem_append.1 h with h|h
  ·obtain⟨f,h1,h2,h3⟩:=ih h
   exact⟨f,h1,by omega,h3⟩
  unfold chF at h
  split at h
  ·cases h
  exact⟨k+1,by omega,by omega,List.mem_singleton.1 h⟩
theorem chT_all{x y:Sg}{k f:Nat}(h1:1≤f)(h2:f≤k)(h:setF zeroSg (f:Int) x≠setF zeroSg (f:Int) y):(⟨0,1,x.id,(f:Int),setF zeroSg (f:Int) y,[]⟩:Pt)∈chT x y k:=by
 induction k with
 | zero=>omega
 | succ k ih =>
  by_cases e:f=k+1
  ·subst e
   refine List.mem_append.2 (.inr ?_)
   unfold chF
   rw [if_neg h]
   exact List.mem_singleton.2 rfl
  exact List.mem_append.2 (.inl (ih (by omega)))
theorem mem_ofS{l:List Pt}{p:Pt}(h:p∈l):p∈ofS p.sign l:=List.mem_filter.2 ⟨h,by simp⟩
theorem mrg_core{a b:List Sg}{l:List Pt}(ha:okL a)(hb:okL b)(h:mrg a b=some l):∀ p∈l,core p=p:=fun p hp=>by
 have h1:=mem_ofS hp
 rw [(mrg_of ha hb h p.sign).1]at h1
 unfold mrgF at h1
 split at h1
 ·exact chT_core _ _ _ p h1
 ·obtain rfl:=List.mem_singleton.1 h1;rfl
 ·obtain rfl:=List.mem_singleton.1 h1;rfl
 cases h1
theorem sg_ext9{u y:Sg}(h1:u.id=y.id)(h2:u.kind=y.kind)(h:∀ f:Nat,1≤f→f≤9→setF zeroSg (f:Int) u=setF zeroSg (f:Int) y):u=y:=by
 have e1:=h 1 (by omega) (by omega)
 have e2:=h 2 (by omega) (by omega)
 have e3:=h 3 (by omega) (by omega)
 have e4:=h 4 (by omega) (by omega)
 have e5:=h 5 (by omega) (by omega)
 have e6:=h 6 (by omega) (by omega)
 have e7:=h 7 (by omega) (by omega)
 have e8:=h 8 (by omega) (by omega)
 have e9:=h 9 (by omega) (by omega)
 cases u;cases y
 simp [setF,zeroSg]at *
 simp_all
theorem good_set{y:Sg}:∀ (q:List Pt)(u:Sg),u.id=y.id→u.kind=y.kind→(∀ p∈q,p.kind=1∧∃ f:Nat,1≤f∧f≤9∧p.field=(f:Int)∧p.new=setF zeroSg (f:Int) y)→(∀ f:Nat,1≤f→f≤9→setF zeroSg (f:Int) u=setF zeroSg (f:Int) y∨∃ p∈q,p.field=(f:Int))→goodId (some u) q (some y)
 | [],u,h1,h2,_,h=>by
  show some u=some y
  rw [sg_ext9 h1 h2 fun f k1 k2=>(h f k1 k2).resolve_right fun⟨p,hp,_⟩=>nomatch hp]
 | p::q,u,h1,h2,hq,h=>by
  obtain⟨hk,f,f1,f9,hf,hnew⟩:=hq p (List.mem_cons_self ..)
  refine⟨.inl ⟨hk,rfl,by rw [hf];omega,by rw [hf];omega⟩,?_⟩
  have hu:updP p (some u)=some (setF u (f:Int) y):=by
   unfold updP
   rw [if_pos hk,hf,hnew,Option.map_some,setF_of]
  rw [hu]
  refine good_set q _ (by rw [setF_id];exact h1) ?_ (fun r hr=>hq r (List.mem_cons_of_mem _ hr)) fun g g1 g9=>?_
  ·rw [← h2]
   have hc:f=1∨f=2∨f=3∨f=4∨f=5∨f=6∨f=7∨f=8∨f=9:=by omega
   rcases hc with rfl|rfl|rfl|rfl|rfl|rfl|rfl|rfl|rfl<;>simp [setF]
  by_cases e:g=f
  ·subst e
   exact .inl setF_of
  rcases h g g1 g9 with h3|⟨r,hr,h3⟩
  ·left
   rw [← h3]
   have hc:f=1∨f=2∨f=3∨f=4∨f=5∨f=6∨f=7∨f=8∨f=9:=by omega
   have hd:g=1∨g=2∨g=3∨g=4∨g=5∨g=6∨g=7∨g=8∨g=9:=by omega
   rcases hc with rfl|rfl|rfl|rfl|rfl|rfl|rfl|rfl|rfl<;>rcases hd with rfl|rfl|rfl|rfl|rfl|rfl|rfl|rfl|rfl<;>first|exact absurd rfl e|simp [setF]
  rcases List.mem_cons.1 hr with rfl|hr
  ·exact absurd (by omega) e
  exact .inr ⟨r,hr,h3⟩
theorem perm_one{q:List Pt}{p:Pt}(h:(q.map core).Perm [p]):∃ r,q=[r]∧core r=p:=by
 have h1:=h.length_eq
 simp at h1
 obtain⟨r,rfl⟩:=List.length_eq_one_iff.1 h1
 have h2:=h.mem_iff (a:=core r)
 simp at h2
 exact⟨r,rfl,h2⟩
theorem perm_good{a b:List Sg}{q:List Pt}{id:Int}(hk:∀ x y,findO a id=some x→findO b id=some y→x.kind=y.kind)(hq:(q.map core).Perm (mrgF a b id)):goodId (findO a id) q (findO b id):=by
 unfold mrgF at hq
 split at hq
 ·rename_i x y hx hy
  rw [hx,hy]
  have h1:=(show x.id=id by simpa using List.find?_some hx)
  have h2:=(show y.id=id by simpa using List.find?_some hy)
  refine good_set q x (by omega) (hk x y hx hy) (fun p hp=>?_) fun f f1 f9=>?_
  ·have h3:core p∈chT x y 9:=hq.mem_iff.1 (List.mem_map.2 ⟨p,hp,rfl⟩)
   obtain⟨f,g1,g2,g3⟩:=chT_mem h3
   have g4:p.kind=1:=congrArg Pt.kind g3
   have g5:p.field=(f:Int):=congrArg Pt.field g3
   have g6:p.new=setF zeroSg (f:Int) y:=congrArg Pt.new g3
   exact⟨g4,f,g1,g2,g5,g6⟩
  by_cases e:setF zeroSg (f:Int) x=setF zeroSg (f:Int) y
  ·exact .inl e
  obtain⟨p,hp,h4⟩:=List.mem_map.1 (hq.mem_iff.2 (chT_all f1 f9 e))
  exact .inr ⟨p,hp,congrArg Pt.field h4⟩
 ·rename_i x hx hy
  obtain⟨r,rfl,h1⟩:=perm_one hq
  rw [hx,hy]
  have h2:r.kind=3:=congrArg Pt.kind h1
  exact⟨.inr (.inr ⟨h2,rfl⟩),by show updP r (some x)=none;unfold updP;rw [if_neg (by omega),if_neg (by omega)]⟩
 ·rename_i y hx hy
  obtain⟨r,rfl,h1⟩:=perm_one hq
  rw [hx,hy]
  have h2:r.kind=2:=congrArg Pt.kind h1
  have h3:r.new=y:=congrArg Pt.new h1
  exact⟨.inr (.inl ⟨h2,rfl,by rw [h3];exact(congrArg Pt.sign h1).symm⟩),by show updP r none=some y;unfold updP;rw [if_neg (by omega),if_pos h2,h3]⟩
 rename_i hx hy
 obtain rfl:q=[]:=by simpa using hq
 rw [hx,hy]
 exact rfl
theorem diff_some{a b:List Sg}{first:Int}{needs:List Int}(h0:(diffR a b first needs).2=0):okL a∧okL b∧∃ l,mrg a b=some l∧(diffR a b first needs).1=num first needs 0 l:=by
 by_cases c1:chkS a=0
 ·by_cases c2:chkS b=0
  ·by_cases c3:32<needs.length
   ·rw [diffR_n c1 c2 c3]at h0;cases h0
   by_cases c4:(1≤first∧first≤1048576)∧incr needs 1 (first-1)
   ·rw [diffR_m c1 c2 c3 c4]at h0 ⊢
    refine⟨(chkS_ok c1).1,(chkS_ok c2).1,?_⟩
    cases hmr:mrg a b with
    | none=>rw [hmr]at h0;cases h0
    | some l =>
     rw [hmr]at h0
     simp only at h0 ⊢
     by_cases c5:512<l.length∨1048576<first+(l.length:Int)-1
     ·rw [if_pos c5]at h0;cases h0
     exact⟨l,rfl,by rw [if_neg c5]⟩
   rw [diffR_i c1 c2 c3 c4]at h0;cases h0
  rw [diffR_b c1 c2]at h0;exact absurd h0 c2
 rw [diffR_a c1]at h0;exact absurd h0 c1
theorem chkS_err(ss:List Sg):chkS ss=0∨chkS ss=360∨chkS ss=2:=by
 unfold chkS;split
 ·exact .inr (.inr rfl)
 split
 ·exact .inl rfl
 exact .inr (.inl rfl)
theorem diffR_err{a b:List Sg}{first:Int}{needs:List Int}:(diffR a b first needs).2=0∨(((diffR a b first needs).2=360∨(diffR a b first needs).2=2)∧(diffR a b first needs).1=[]):=by
 unfold diffR
 split
 ·exact .inr ⟨(chkS_err a).resolve_left (by assumption),rfl⟩
 split
 ·exact .inr ⟨(chkS_err b).resolve_left (by assumption),rfl⟩
 split
 ·exact .inr ⟨.inr rfl,rfl⟩
 split
 ·exact .inr ⟨.inl rfl,rfl⟩
 split
 ·exact .inr ⟨.inl rfl,rfl⟩
 split
 ·exact .inr ⟨.inr rfl,rfl⟩
 exact .inl rfl
def Left(F:Int→Option Sg)(L:List Pt)(b:List Sg):Prop:=∀ m:List Pt,m.Perm L→∀ id,goodId (F id) (ofS id m) (findO b id)
theorem ofS_cons_of{x:Pt}{l:List Pt}{id:Int}(h:x.sign=id):ofS id (x::l)=x::ofS id l:=List.filter_cons_of_pos (by simp [h])
theorem ofS_cons_no{x:Pt}{l:List Pt}{id:Int}(h:x.sign≠id):ofS id (x::l)=ofS id l:=List.filter_cons_of_neg (by simp [h])
theorem out_perm{γ:Type}{L:List γ}{k:Nat}{x:γ}(hx:L[k]?=some x):(x::(L.take k++L.drop (k+1))).Perm L:=by
 obtain⟨hk,h1⟩:=List.getElem?_eq_some_iff.1 hx
 have e:L=L.take k++x::L.drop (k+1):=by
  conv=>lhs;rw [← List.take_append_drop k L,List.drop_eq_getElem_cons hk,h1]
 conv=>rhs;rw [e]
 exact List.perm_middle.symm
theorem Left.step{F:Int→Option Sg}{L:List Pt}{b:List Sg}{k:Nat}{x:Pt}(h:Left F L b)(hx:L[k]?=some x):preX x (F x.sign)∧Left (updF F x.sign (updP x (F x.sign))) (L.take k++L.drop (k+1)) b:=by
 have h1:∀ m:List Pt,m.Perm (L.take k++L.drop (k+1))→(x::m).Perm L:=fun m hm=>(hm.cons x).trans (out_perm hx)
 refine⟨?_,fun m hm id=>?_⟩
 ·have:=h _ (h1 _ (.refl _)) x.sign
  rw [ofS_cons_of rfl]at this
  exact this.1
 ·have:=h _ (h1 m hm) id
  by_cases hid:id=x.sign
  ·subst hid
   rw [ofS_cons_of rfl]at this
   rw [updF_at];exact this.2
  rw [ofS_cons_no fun h=>hid h.symm]at this
  rw [updF_ne _ _ hid];exact this
theorem left_zero{a b:List Sg}{first:Int}{needs:List Int}(h0:(diffR a b first needs).2=0):Left (findO a) (diffR a b first needs).1 b:=by
 obtain⟨oa,ob,l,hmr,hl⟩:=diff_some h0
 intro m hm id
 rw [hl]at hm
 obtain⟨e1,e2⟩:=mrg_of oa ob hmr id
 refine perm_good e2 ?_
 rw [← e1]
 have e3:((ofS id m).map core).Perm ((ofS id (num first needs 0 l)).map core):=(hm.filter _).map _
 have e4:(ofS id (num first needs 0 l)).map core=ofS id l:=by
  conv=>rhs;rw [← num_core (first:=first) (needs:=needs) (k:=0) (mrg_core oa ob hmr)]
  unfold ofS
  rw [List.filter_map]
  rfl
 rw [e4]at e3
 exact e3
def pairP(p:Pt):Int×Int:=(p.sign,p.field)
theorem num_pair{first:Int}{needs:List Int}{k:Nat}{l:List Pt}:(num first needs k l).map pairP=l.map pairP:=by
 induction l generalizing k with
 | nil=>rfl
 | cons p l ih=>simp only [num,List.map_cons,ih];rfl
theorem pairs_of:∀ {l:List Pt},(∀ id,((ofS id l).map pairP).Nodup)→(l.map pairP).Nodup
 | [],_=>List.nodup_nil
 | p::l,h=>by
  rw [List.map_cons,List.nodup_cons]
  refine⟨fun hp=>?_,pairs_of fun id=>?_⟩
  ·obtain⟨q,hq,hqp⟩:=List.mem_map.1 hp
   have h1:=h p.sign
   rw [ofS_cons_of rfl,List.map_cons,List.nodup_cons]at h1
   have hs:q.sign=p.sign:=congrArg Prod.fst hqp
   exact h1.1 (List.mem_map.2 ⟨q,List.mem_filter.2 ⟨hq,by simp [hs]⟩,hqp⟩)
  exact(h id).sublist (((List.sublist_cons_self p l).filter _).map _)
theorem chT_pairs(x y:Sg)(k:Nat):((chT x y k).map pairP).Nodup:=by
 induction k with
 | zero=>exact List.nodup_nil
 | succ k ih =>
  show((chT x y k++chF x y ((k+1:Nat):Int)).map pairP).Nodup
  unfold chF
  split
  ·rw [List.append_nil];exact ih
  rw [List.map_append,List.nodup_append]
  refine⟨ih,by simp,fun a ha b hb hab=>?_⟩
  obtain⟨p,hp,rfl⟩:=List.mem_map.1 ha
  obtain⟨f,h1,h2,rfl⟩:=chT_mem hp
  simp only [List.map_cons,List.map_nil,List.mem_singleton]at hb
  rw [hb]at hab
  have:((f:Nat):Int)=((k+1:Nat):Int):=congrArg Prod.snd hab
  omega
theorem diff_pairs{a b:List Sg}{first:Int}{needs:List Int}(h0:(diffR a b first needs).2=0):((diffR a b first needs).1.map pairP).Nodup:=by
 obtain⟨oa,ob,l,hmr,hl⟩:=diff_some h0
 rw [hl,num_pair]
 refine pairs_of fun id=>?_
 rw [(mrg_of oa ob hmr id).1]
 unfold mrgF
 split
 ·exact chT_pairs _ _ 9
 ·simp
 ·simp
 exact List.nodup_nil
theorem find_mem{ss:List Sg}{z:Sg}(hs:okL ss)(hz:z∈ss):findO ss z.id=some z:=by
 induction ss with
 | nil=>cases hz
 | cons x l ih =>
  obtain⟨h1,h2⟩:=okL_tail hs
  rw [findO_cons]
  rcases List.mem_cons.1 hz with rfl|hz
  ·rw [if_pos rfl]
  rw [if_neg (by have:=h2 z hz;omega)];exact ih h1 hz
theorem find_of{ss:List Sg}{z:Sg}{id:Int}(h:findO ss id=some z):z∈ss∧z.id=id:=⟨List.mem_of_find?_eq_some h,by simpa using List.find?_some h⟩
theorem sgs_ext:∀ {a b:List Sg},okL a→okL b→(∀ z,z∈a↔z∈b)→a=b
 | [],[],_,_,_=>rfl
 | [],y::b,_,_,h=>absurd ((h y).2 (List.mem_cons_self ..)) (by simp)
 | x::a,[],_,_,h=>absurd ((h x).1 (List.mem_cons_self ..)) (by simp)
 | x::a,y::b,ha,hb,h=>by
  obtain⟨ha1,ha2⟩:=okL_tail ha
  obtain⟨hb1,hb2⟩:=okL_tail hb
  have hxy:x=y:=by
   rcases List.mem_cons.1 ((h x).1 (List.mem_cons_self ..))with e|e
   ·exact e
   rcases List.mem_cons.1 ((h y).2 (List.mem_cons_self ..))with e'|e'
   ·exact e'.symm
   ·have:=hb2 x e
    have:=ha2 y e'
    omega
  subst hxy
  rw [sgs_ext ha1 hb1 fun z=>?_]
  constructor
  ·intro hz
   rcases List.mem_cons.1 ((h z).1 (List.mem_cons_of_mem _ hz))with e|e
   ·subst e;have:=ha2 z hz;omega
   exact e
  intro hz
  rcases List.mem_cons.1 ((h z).2 (List.mem_cons_of_mem _ hz))with e|e
  ·subst e;have:=hb2 z hz;omega
  exact e
theorem find_ext{a b:List Sg}(ha:okL a)(hb:okL b)(h:∀ id,findO a id=findO b id):a=b:=sgs_ext ha hb fun z=>by
 constructor
 ·intro hz;have:=find_mem ha hz;rw [h]at this;exact(find_of this).1
 intro hz;have:=find_mem hb hz;rw [← h]at this;exact(find_of this).1
theorem diff_nil{a b:List Sg}{first:Int}{needs:List Int}(h0:(diffR a b first needs).2=0):(diffR a b first needs).1=[]↔a=b:=by
 obtain⟨oa,ob,l,hmr,hl⟩:=diff_some h0
 constructor
 ·intro h
  have h1:=left_zero h0
  rw [h]at h1
  exact find_ext oa ob fun id=>h1 [] (.refl _) id
 rintro rfl
 have h1:∀ id,ofS id l=[]:=fun id=>by
  rw [(mrg_of oa ob hmr id).1]
  unfold mrgF
  cases hf:findO a id with
  | none=>rfl
  | some x =>
   show chT x x 9=[]
   have:∀ k,chT x x k=[]:=fun k=>by
    induction k with
    | zero=>rfl
    | succ k ih=>rw [chT_same rfl];exact ih
   exact this 9
 have h2:l=[]:=List.eq_nil_iff_forall_not_mem.2 fun p hp=>by
  have:=mem_ofS hp
  rw [h1]at this
  cases this
 rw [hl,h2];rfl
theorem find_snoc{a:List Sg}{i:Nat}{z:Sg}(ha:okL a)(hz:a[i]?=some z):findO (a.take (i+1))=updF (findO (a.take i)) z.id (some z):=by
 funext id
 have hi:=(List.getElem?_eq_some_iff.1 hz).1
 have e:a.take (i+1)=a.take i++[z]:=by rw [List.take_add_one,hz];rfl
 rw [e]
 unfold findO
 rw [List.find?_append]
 by_cases hid:id=z.id
 ·subst hid
  rw [updF_at]
  have:(a.take i).find? (fun s=>decide (s.id=z.id))=none:=by
   rw [List.find?_eq_none]
   intro y hy
   obtain⟨j,hj⟩:=List.getElem?_of_mem hy
   have hj':=hj
   rw [List.getElem?_take]at hj'
   split at hj'
   ·rename_i hji
    have h1:=List.pairwise_iff_getElem.1 ha.2 j i (by omega) hi hji
    rw [(List.getElem?_eq_some_iff.1 hj').2,(List.getElem?_eq_some_iff.1 hz).2]at h1
    simp;omega
   cases hj'
  rw [this];simp
 rw [updF_ne _ _ hid]
 cases hq:(a.take i).find? (fun s=>decide (s.id=id))with
 | some w=>rfl
 | none=>simp [fun h=>hid (Eq.symm h)];exact fun h=>hid h.symm
def keyI(i:Int):Value:=.int .i64 i
theorem keyI_inj(a b:Int)(h:keyI a=keyI b):a=b:=by injection h
def keyPr(p:Int×Int):Value:=.agg #[.int .i64 p.1,.int .i64 p.2]
theorem keyPr_inj(a b:Int×Int)(h:keyPr a=keyPr b):a=b:=by
 obtain⟨a1,a2⟩:=a;obtain⟨b1,b2⟩:=b
 simpa [keyPr]using h
def yesC(_:Unit):List Value:=[.bool true]
theorem map_len{b:List Sg}{l:List Qe}(hb:okL b)(h:FMap keyI cellsSg l (findO b)):l.length=b.length:=by
 have hbn:(b.map fun x=>keyI x.id).Nodup:=by
  rw [List.nodup_iff_pairwise_ne,List.pairwise_map]
  exact hb.2.imp fun hlt he=>by have:=keyI_inj _ _ he;omega
 have h1:(l.map Qe.key).length≤(b.map fun x=>keyI x.id).length:=nodup_len h.nod fun v hv=>by
  obtain⟨e,he,rfl⟩:=List.mem_map.1 hv
  obtain⟨i,x,h1,h2,h3⟩:=h.ent e he
  obtain⟨h4,h5⟩:=find_of h3
  exact List.mem_map.2 ⟨x,h4,by rw [h1,h5]⟩
 have h2:(b.map fun x=>keyI x.id).length≤(l.map Qe.key).length:=nodup_len hbn fun v hv=>by
  obtain⟨x,hx,rfl⟩:=List.mem_map.1 hv
  obtain⟨e,he,h3⟩:=h.all x.id x (find_mem hb hx)
  exact List.mem_map.2 ⟨e,he,h3⟩
 simp only [List.length_map]at h1 h2
 omega
def Fresh(G:Int×Int→Option Unit)(L:List Pt):Prop:=(L.map pairP).Nodup∧∀ p∈L,G (pairP p)=none
theorem Fresh.step{G:Int×Int→Option Unit}{L:List Pt}{k:Nat}{x:Pt}(h:Fresh G L)(hx:L[k]?=some x):G (pairP x)=none∧Fresh (updF G (pairP x) (some ())) (L.take k++L.drop (k+1)):=by
 have h1:=out_perm hx
 have h2:((x::(L.take k++L.drop (k+1))).map pairP).Nodup:=(h1.map pairP).nodup_iff.2 h.1
 rw [List.map_cons,List.nodup_cons]at h2
 refine⟨h.2 x (List.mem_of_getElem? hx),h2.2,fun p hp=>?_⟩
 rw [updF_ne _ _ fun he=>h2.1 (List.mem_map.2 ⟨p,hp,he⟩)]
 exact h.2 p (h1.mem_iff.1 (List.mem_cons_of_mem _ hp))
theorem kd_int:KeyOk Try.prog 3 (MapKept.IsKey (.int .i64)):=KeyOk.plain (by kernel_rfl)
def KP(v:Value):Prop:=∃ y,keyOf Try.prog 56 v=some y
theorem kd_pr:KeyOk Try.prog 56 KP:=KeyOk.keyed (Maps.Keyed.of_law (deep_law (m:=3) (by decide) (by kernel_rfl) (by kernel_rfl) (by kernel_rfl)))
theorem int_wf{a:Int}(h1 : -9223372036854775808≤a)(h2:a≤9223372036854775807):(Lit.int .i64 a).wf=true:=by
 show(decide (IntKind.i64.min≤a) && decide (a≤IntKind.i64.max))=true
 rw [Bool.and_eq_true,decide_eq_true_eq,decide_eq_true_eq];exact⟨h1,h2⟩
theorem kd_prK(p:Int×Int)(h1 : -9223372036854775808≤p.1)(h2:p.1≤9223372036854775807)(h3 : -9223372036854775808≤p.2)(h4:p.2≤9223372036854775807):KP (keyPr p):=by
 obtain⟨a,b⟩:=p
 have e1:Try.prog.underlying 56=some (.array 2 3):=by kernel_rfl
 have e2:Try.prog.underlying 3=some (.int .i64):=by kernel_rfl
 have e3:Try.prog.cellsOf 56=2:=by kernel_rfl
 have e4:Try.prog.cellsOf 3=1:=by kernel_rfl
 have e5:Try.prog.keyType 56=true:=by kernel_rfl
 have e6:(Value.agg #[.int .i64 a,.int .i64 b]).formed Try.prog 56=true:=by kernel_rfl
 have wa:=int_wf h1 h2
 have wb:=int_wf h3 h4
 have hl:∀ d,Try.prog.keyLits (d+2) 56 [.int .i64 a,.int .i64 b]=some [.int .i64 a,.int .i64 b]:=by
  intro d
  unfold Program.keyLits
  simp only [e1,e3,e4,List.length_cons,List.length_nil,if_true,Nat.zero_add,Nat.reduceAdd,show List.range 2=[0,1] from rfl]
  unfold Program.keyLits
  simp only at wa wb
  simp [e2,wa,wb]
 unfold KP keyOf keyPr
 rw [e1]
 simp only [e5,e6,Bool.and_self,if_true]
 refine⟨.string (keyBytes [.int .i64 a,.int .i64 b]),?_⟩
 have hz:decide (0<Try.prog.types.size)=true:=by kernel_rfl
 have hz:=of_decide_eq_true hz
 obtain⟨m,hm⟩:∃ m,Try.prog.types.size+1=m+2:=⟨Try.prog.types.size-1,by omega⟩
 rw [hm,show(Value.agg #[.int .i64 a,.int .i64 b]).cells.toList=[.int .i64 a,.int .i64 b] from rfl,hl]
 rfl
def bndP(p:Pt):Prop:=0≤p.sign∧p.sign≤1048576∧0≤p.field∧p.field≤9
theorem bndP.key{p:Pt}(h:bndP p):KP (keyPr (pairP p)):=by
 obtain⟨h1,h2,h3,h4⟩:=h
 exact kd_prK (pairP p) (by show _≤p.sign;omega) (by show p.sign≤_;omega) (by show _≤p.field;omega) (by show p.field≤_;omega)
theorem num_mem{first:Int}{needs:List Int}{p:Pt}:∀ {l:List Pt}{k:Nat},p∈num first needs k l→∃ q∈l,p.sign=q.sign∧p.field=q.field
 | [],_,h=>by cases h
 | q::l,k,h=>by
  rcases List.mem_cons.1 h with rfl|h
  ·exact⟨q,List.mem_cons_self ..,rfl,rfl⟩
  obtain⟨r,hr,h4⟩:=num_mem h
  exact⟨r,List.mem_cons_of_mem _ hr,h4⟩
theorem diff_bnd{a b:List Sg}{first:Int}{needs:List Int}(h0:(diffR a b first needs).2=0):∀ p∈(diffR a b first needs).1,bndP p:=by
 obtain⟨oa,ob,l,hmr,hl⟩:=diff_some h0
 intro p hp
 rw [hl]at hp
 obtain⟨q,hq,h1,h2⟩:=num_mem hp
 have hm:=mem_ofS hq
 rw [(mrg_of oa ob hmr q.sign).1]at hm
 unfold mrgF at hm
 unfold bndP
 rw [h1,h2]
 split at hm
 ·rename_i x y hx hy
  obtain⟨f,g1,g2,rfl⟩:=chT_mem hm
  obtain⟨⟨k1,k2⟩,_⟩:=oa.1 x (find_of hx).1
  exact⟨k1,k2,by show 0≤(f:Int);omega,by show(f:Int)≤9;omega⟩
 ·rename_i x hx hy
  obtain rfl:=List.mem_singleton.1 hm
  obtain⟨⟨k1,k2⟩,_⟩:=oa.1 x (find_of hx).1
  exact⟨k1,k2,by show(0:Int)≤0;omega,by show(0:Int)≤9;omega⟩
 ·rename_i y hx hy
  obtain rfl:=List.mem_singleton.1 hm
  obtain⟨⟨k1,k2⟩,_⟩:=ob.1 y (find_of hy).1
  exact⟨k1,k2,by show(0:Int)≤0;omega,by show(0:Int)≤9;omega⟩
 cases hm
structure J2(b:List Sg)(i:Nat)(L:List Ph)(l t:List Qe)(M:Int→Option Sg)(G:Int×Int→Option Unit):Prop where
 len:i+L.length≤512
 m:FMap keyI cellsSg l M
 ks:∀ e∈l,MapKept.IsKey (.int .i64) e.key
 g:FMap keyPr yesC t G
 gk:∀ e∈t,KP e.key
 left:Left M (L.map (·.1)) b
 fresh:Fresh G (L.map (·.1))
 bnd:∀ p∈L.map (·.1),bndP p
theorem out_map{L:List Ph}{k:Nat}:(L.take k++L.drop (k+1)).map (·.1)=(L.map (·.1)).take k++(L.map (·.1)).drop (k+1):=by
 rw [List.map_append,List.map_take,List.map_drop]
theorem J2.at{b:List Sg}{i:Nat}{L:List Ph}{l t:List Qe}{M:Int→Option Sg}{G:Int×Int→Option Unit}(h:J2 b i L l t M G){k:Nat}{x:Ph}(hx:L[k]?=some x):preX x.1 (M x.1.sign)∧G (pairP x.1)=none∧bndP x.1:=by
 have hx':(L.map (·.1))[k]?=some x.1:=by rw [List.getElem?_map,hx];rfl
 exact⟨(h.left.step hx').1,(h.fresh.step hx').1,h.bnd _ (List.mem_of_getElem? hx')⟩
theorem J2.go{b:List Sg}{i:Nat}{L:List Ph}{l t l' t':List Qe}{M:Int→Option Sg}{G:Int×Int→Option Unit}(h:J2 b i L l t M G){k ny ny':Nat}{x:Ph}{o:Option Sg}(hx:L[k]?=some x)(hm:FMap keyI cellsSg l' (updF M x.1.sign o))(ho:updP x.1 (M x.1.sign)=o)(hk:∀ e∈l',MapKept.IsKey (.int .i64) e.key)(hp:PutQ ny t (keyPr (pairP x.1)) (yesC ()) ny' t')(hg:FMap keyPr yesC t' (updF G (pairP x.1) (some ()))):J2 b (i+1) (L.take k++L.drop (k+1)) l' t' (updF M x.1.sign o) (updF G (pairP x.1) (some ())):=by
 have hx':(L.map (·.1))[k]?=some x.1:=by rw [List.getElem?_map,hx];rfl
 have h1:=out_perm hx
 have hl:=h1.length_eq
 refine⟨by have:=h.len;simp only [List.length_cons]at hl;omega,hm,hk,hg,hp.keys h.gk (h.at hx).2.2.key,?_,?_,fun p hp'=>h.bnd p ?_⟩
 ·rw [out_map,← ho];exact(h.left.step hx').2
 ·rw [out_map];exact(h.fresh.step hx').2
 exact(h1.map (·.1)).mem_iff.1 (List.mem_cons_of_mem _ hp')
theorem out_lt{L:List Ph}{k:Nat}{x:Ph}(hx:L[k]?=some x):([Value.agg (phL (L.take k++L.drop (k+1))).toArray].flatMap SX.cellsV).toArray.size<(phL L).toArray.size:=by
 have hl:=(out_perm hx).length_eq
 simp only [List.flatMap_cons,List.flatMap_nil,List.append_nil,SX.cellsV,List.toList_toArray,List.size_toArray]
 rw [phL_len,phL_len]
 simp only [List.length_cons]at hl
 omega
theorem look_of(o:Option Sg):∃ (y:Sg)(c:Bool),(c=true→o=some y)∧(c=false→o=none∧y=zeroSg):=by
 cases o with
 | none=>exact⟨zeroSg,false,nofun,fun _=>⟨rfl,rfl⟩⟩
 | some y=>exact⟨y,true,fun _=>rfl,nofun⟩
theorem do_no{p:Pt}{o:Option Sg}{y:Sg}{c:Bool}(h:preX p o)(h1:c=true→o=some y)(h0:c=false→o=none∧y=zeroSg):(p.kind=2→c=false)∧(p.kind=2→p.new.id=p.sign)∧(p.kind=3→c=true)∧(p.kind=1→c=true)∧(p.kind=1→1≤p.field∧p.field≤9)∧(p.kind=1∨p.kind=2∨p.kind=3):=by
 rcases h with ⟨q1,q2,q3,q4⟩|⟨q1,q2,q3⟩|⟨q1,q2⟩
 ·refine⟨by omega,by omega,by omega,fun _=>?_,by omega,by omega⟩
  cases c with
  | true=>rfl
  | false=>rw [(h0 rfl).1]at q2;cases q2
 ·refine⟨fun _=>?_,by omega,by omega,by omega,by omega,by omega⟩
  cases c with
  | true=>rw [h1 rfl]at q2;cases q2
  | false=>rfl
 refine⟨by omega,by omega,fun _=>?_,by omega,by omega,by omega⟩
 cases c with
 | true=>rfl
 | false=>rw [(h0 rfl).1]at q2;cases q2
theorem upd_set{p:Pt}{o:Option Sg}{y:Sg}{f:Int}(h1:p.kind=1)(h2:p.field=f)(h:o=some y):updP p o=some (setF y f p.new):=by
 unfold updP;rw [if_pos h1,h,h2];rfl
theorem upd_ins{p:Pt}{o:Option Sg}(h:p.kind=2):updP p o=some p.new:=by
 unfold updP;rw [if_neg (by omega),if_pos h]
theorem upd_rem{p:Pt}{o:Option Sg}(h:p.kind=3):updP p o=none:=by
 unfold updP;rw [if_neg (by omega),if_neg (by omega)]
def intI(l:List Int):List Value:=l.map (.int .i64)
theorem intI_inj:∀ (a b:List Int),intI a=intI b→a=b
 | [],[],_=>rfl
 | [],_::_,h=>by simp [intI]at h
 | _::_,[],h=>by simp [intI]at h
 | x::a,y::b,h=>by
  simp only [intI,List.map_cons,List.cons.injEq,Value.int.injEq,true_and]at h
  rw [h.1,intI_inj a b h.2]
namespace SX
variable {C:Cx}{ρ:List Value}{α:Nat→AV}
theorem rbnd_k{c i:V}{sz L j:Nat}(h:(cellsV (c.den ρ α)).length=L)(hi:i.den ρ α=.int .i64 (j:Int))(hlt:j<L / sz):Opq.rel C ρ α (.rbnd sz) [c,i] (.bool true):=by
 refine⟨?_,rfl⟩
 rw [hi,h]
 show 0≤(j:Int)∧(j:Int)<((L / sz:Nat):Int)
 omega
theorem app_k{vs:List V}{y:V}{sz by':Nat}{cs:List Value}(h:denL ρ α vs=cs)(h1:cs.all (·.oneCell')=true)(h2:(0+cs.length) / sz*by'≤140737488355328)(h3:(0+cs.length) / sz≤140737488355328):Opq.rel C ρ α (.app sz by' (.own sz vs)) [.cat [],y] (.agg cs.toArray):=by
 subst h
 exact⟨⟨y.den ρ α,sz,denL ρ α vs⟩,⟨rfl,trivial⟩,rfl,fun u hu=>List.all_eq_true.1 h1 u hu,h2,h3,rfl⟩
end SX
theorem made_flat(z:Array Value):∀ n:Nat,(madeCells z (n*z.size)).toList=(List.replicate n z.toList).flatten
 | 0=>by simp [madeCells]
 | n+1=>by
  have ih:=made_flat z n
  rw [List.replicate_succ,List.flatten_cons,← ih]
  unfold madeCells
  rw [show(n+1)*z.size=z.size+n*z.size by rw [Nat.add_mul];omega]
  simp only [Array.toList_map,Array.toList_range,List.range_add,List.map_append,List.map_map]
  congr 1
  ·apply List.ext_getElem
   ·simp
   intro i h1 h2
   have hi:i<z.size:=by simpa using h2
   simp [Nat.mod_eq_of_lt hi,hi]
  apply List.map_congr_left
  intro i _
  simp [Nat.add_mod_left]
theorem mks_sg:sgsL (List.replicate 4097 zeroSg)=(madeCells (cellsSg zeroSg).toArray (4097*14)).toList:=by
 have h:=made_flat (cellsSg zeroSg).toArray 4097
 rw [show(cellsSg zeroSg).toArray.size=14 from rfl]at h
 rw [h]
 unfold sgsL
 rw [List.flatMap_def,List.map_replicate]
theorem mks_val:Value.agg (sgsL (List.replicate 4097 zeroSg)).toArray=.agg (madeCells (cellsSg zeroSg).toArray (4097*14)):=by
 rw [mks_sg,Array.toArray_toList]
theorem sane_a1:applyE (⟨1,0,0,0,9,0,0,0,zeroSg⟩:Ed) ([⟨4,1,2,1,4,1,7,2,0,0,0,1,1,2⟩]:List Sg)=(([⟨4,1,2,1,4,2,3,2,0,0,0,1,1,2⟩]:List Sg),0):=applyE_ok (by decide +kernel) (by refine⟨by decide,by decide,rfl,?_⟩;simp only [rightE,roleE,barsE];decide +kernel) (by decide +kernel) (by decide +kernel)
theorem sane_a7:applyE (⟨7,2,0,0,2,0,1,2,zeroSg⟩:Ed) ([⟨4,1,2,1,4,1,7,2,0,0,0,1,1,2⟩]:List Sg)=(([⟨4,1,2,1,4,1,7,2,0,0,0,1,1,4⟩]:List Sg),0):=applyE_ok (by decide +kernel) (by refine⟨by decide,by decide,rfl,?_⟩;simp only [rightE,roleE,barsE];decide +kernel) (by decide +kernel) (by decide +kernel)
theorem sane_a3:applyE (⟨3,0,0,2,3,0,0,0,zeroSg⟩:Ed) ([⟨4,1,2,1,4,1,7,2,0,0,0,1,1,2⟩]:List Sg)=(([]:List Sg),0):=applyE_ok (by decide +kernel) (by refine⟨by decide,by decide,rfl,?_⟩;simp only [rightE,roleE,barsE];decide +kernel) (by decide +kernel) (by decide +kernel)
theorem sane_a0:applyE (⟨0,0,0,0,0,0,0,0,zeroSg⟩:Ed) ([]:List Sg)=(([]:List Sg),360):=applyE_no (by decide +kernel) (by rintro⟨h1,h2,h3,h4⟩;revert h1 h2 h3 h4;simp only [rightE,roleE,barsE];decide +kernel)
theorem sane_a2:applyE (⟨2,0,0,0,0,8,0,0,zeroSg⟩:Ed) ([]:List Sg)=(([]:List Sg),360):=applyE_no (by decide +kernel) (by rintro⟨h1,h2,h3,h4⟩;revert h1 h2 h3 h4;simp only [rightE,roleE,barsE];decide +kernel)
theorem sane_rep:chkS (List.replicate 4097 zeroSg)=2:=by unfold chkS;rw [if_pos (by rw [List.length_replicate];decide)]
def RE5(f:FuncId)(xs:List SX.Arg)(v:Value):Prop :=
 (f=12∧∃ (u:Value) (ss:List Sg) (d:Ed),xs=[⟨u,14,sgsL ss⟩,⟨valE d,0,[]⟩]∧ss.length≤9223372036854775807∧d.kind≠5∧v=.tuple #[.agg (sgsL (applyE d ss).1).toArray,.int .i64 (applyE d ss).2]) ∨
 (f=14∧∃ (u:Value) (ss:List Sg),xs=[⟨u,14,sgsL ss⟩]∧ss.length≤9223372036854775807∧v=.int .i64 (chkS ss)) ∨
 (f=16∧∃ (u u2:Value) (ss tt:List Sg),xs=[⟨u,14,sgsL ss⟩,⟨u2,14,sgsL tt⟩]∧ss.length≤9223372036854775807∧tt.length≤9223372036854775807∧v=.bool (decide (ss=tt)))
def shpE5:FuncId→Option SX.Sh:=fun f=>if f=12 then some (.tp [.sl 14,.one])else if f=14 then some .one else if f=16 then some .one else none
noncomputable def cxE5(K A:Value→Nat→List Value→Prop):SX.Cx:={ P:=Try.prog,R:=fun _=>RE5,shp:=shpE5,K:=K,A:=A,stc:=true,trm:=true,cut:=[(7,0,true),(8,1,true),(10,2,true),(11,3,true),(13,4,true),(17,5,true),(19,6,false),(20,7,true),(26,8,true),(29,9,true),(30,10,true),(31,11,true),(32,12,true),(35,13,true),(36,14,true),(37,15,true),(38,16,true),(39,17,true),(40,18,true),(41,19,true),(43,20,true),(45,21,true),(47,22,true),(50,23,true),(51,24,false),(52,25,false),(54,26,true),(56,27,false),(58,28,false),(60,29,true),(62,30,false),(65,31,false),(68,32,true),(70,33,true)],tl:=[47,57,42,41] }
theorem okE5(K A:Value→Nat→List Value→Prop):(cxE5 K A).Ok:=by
 refine SX.Cx.ok_of (fun _=>rfl) ?_
 intro K f xs v W hR hrd hKf
 rcases hR with ⟨rfl,u,ss,d,rfl,hl,hd,rfl⟩|⟨rfl,u,ss,rfl,hl,rfl⟩|⟨rfl,u,u2,ss,tt,rfl,hl,hl2,rfl⟩
 ·refine Calls.mono ?_ fun e w' h=>SX.SlRet.ok0 rfl h
  obtain⟨A,n,c,rfl,h2,h3,h4⟩:=sgs_arg (hrd ⟨u,14,sgsL ss⟩ (by simp))
  exact apply_any ss A n c d W h2 (by omega) h3 hd
 ·obtain⟨A,n,c,rfl,h2,h3,h4⟩:=sgs_arg (hrd ⟨u,14,sgsL ss⟩ (by simp))
  exact(echeck_any ss A n c W h2 (by omega) h3).mono fun e w' h=>SX.plainOk rfl h
 obtain⟨A,n,c,rfl,h2,h3,h4⟩:=sgs_arg (hrd ⟨u,14,sgsL ss⟩ (by simp))
 obtain⟨A',n',c',rfl,h2',h3',h4'⟩:=sgs_arg (hrd ⟨u2,14,sgsL tt⟩ (by simp))
 exact(same_any ss tt A A' n c n' c' W h2 (by omega) h3 h2' (by omega) h3').mono fun e w' h=>SX.plainOk rfl h
def tree_sane36:SX.Tree :=
(.df (.call 12 [(.own 14 [(.i 4),(.i 1),(.i 2),(.i 1),(.i 4),(.i 1),(.i 7),(.i 2),(.i 0),(.i 0),(.i 0),(.i 1),(.i 1),(.i 2)]),.no]) [(.sl 1 0 1 1),(.a [(.i 1),(.i 0),(.i 0),(.i 0),(.i 9),(.i 0),(.i 0),(.i 0),(.i 0),(.i 0),(.i 0),(.i 0),(.i 0),(.i 0),(.i 0),(.i 0),(.i 0),(.i 0),(.i 0),(.i 0),(.i 0),(.i 0)])] (.tp [(.sl 14),.one])
(.df (.call 12 [(.own 14 [(.i 4),(.i 1),(.i 2),(.i 1),(.i 4),(.i 1),(.i 7),(.i 2),(.i 0),(.i 0),(.i 0),(.i 1),(.i 1),(.i 2)]),.no]) [(.sl 1 0 1 1),(.a [(.i 7),(.i 2),(.i 0),(.i 0),(.i 2),(.i 0),(.i 1),(.i 2),(.i 0),(.i 0),(.i 0),(.i 0),(.i 0),(.i 0),(.i 0),(.i 0),(.i 0),(.i 0),(.i 0),(.i 0),(.i 0),(.i 0)])] (.tp [(.sl 14),.one])
(.df (.call 12 [(.own 14 [(.i 4),(.i 1),(.i 2),(.i 1),(.i 4),(.i 1),(.i 7),(.i 2),(.i 0),(.i 0),(.i 0),(.i 1),(.i 1),(.i 2)]),.no]) [(.sl 1 0 1 1),(.a [(.i 3),(.i 0),(.i 0),(.i 2),(.i 3),(.i 0),(.i 0),(.i 0),(.i 0),(.i 0),(.i 0),(.i 0),(.i 0),(.i 0),(.i 0),(.i 0),(.i 0),(.i 0),(.i 0),(.i 0),(.i 0),(.i 0)])] (.tp [(.sl 14),.one])
(.df (.call 12 [(.own 14 []),.no]) [(.k (.slice none 0 0)),(.a [(.i 0),(.i 0),(.i 0),(.i 0),(.i 0),(.i 0),(.i 0),(.i 0),(.i 0),(.i 0),(.i 0),(.i 0),(.i 0),(.i 0),(.i 0),(.i 0),(.i 0),(.i 0),(.i 0),(.i 0),(.i 0),(.i 0)])] (.tp [(.sl 14),.one])
(.df (.call 12 [(.own 14 []),.no]) [(.k (.slice none 0 0)),(.a [(.i 2),(.i 0),(.i 0),(.i 0),(.i 0),(.i 8),(.i 0),(.i 0),(.i 0),(.i 0),(.i 0),(.i 0),(.i 0),(.i 0),(.i 0),(.i 0),(.i 0),(.i 0),(.i 0),(.i 0),(.i 0),(.i 0)])] (.tp [(.sl 14),.one])
(.df (.call 14 [(.own 14 [(.i 4),(.i 1),(.i 2),(.i 1),(.i 4),(.i 1),(.i 7),(.i 2),(.i 0),(.i 0),(.i 0),(.i 1),(.i 1),(.i 2)])]) [(.sl 1 0 1 1)] .one
(.df (.call 14 [(.own 14 [(.i 4),(.i 1),(.i 2),(.i 1),(.i 4),(.i 1),(.i 7),(.i 3),(.i 0),(.i 0),(.i 0),(.i 1),(.i 1),(.i 2)])]) [(.sl 10 0 1 1)] .one
(.df (.bin .neq 31) [(.q 5),(.i 0)] .one
(.br 7 [] (.bad 70 [])
(.df (.bin .neq 31) [(.q 6),(.i 0)] .one
(.br 8 [] (.bad 70 [])
(.df (.app 19 168 (.own 19 [(.i 0),(.i 1),(.i 4),(.i 6),(.i 0),(.i 0),(.i 0),(.i 0),(.i 0),(.i 0),(.i 0),(.i 3),(.i 0),(.i 0),(.i 0),(.i 0),(.i 0),(.i 0),(.k (.slice none 0 0))])) [(.cat []),(.sl 26 0 1 1)] .any
(.df (.eqr true 2 [(.i .i64),(.i .i64)]) [(.i 0),(.i 1),(.i 0),(.i 1)] .one
(.br 10 [] (.bad 70 [])
(.df (.eqr true 2 [(.i .i64),(.i .i64)]) [(.i 1),(.i 2),(.i 1),(.i 2)] .one
(.br 11 [] (.bad 70 [])
(.df (.rlen 19) [(.cat [(.a [(.i 0),(.i 1),(.i 4),(.i 6),(.i 0),(.i 0),(.i 0),(.i 0),(.i 0),(.i 0),(.i 0),(.i 3),(.i 0),(.i 0),(.i 0),(.i 0),(.i 0),(.i 0),(.k (.slice none 0 0))])])] .one
(.df (.bin .gtr 3) [(.q 12),(.i 512)] .one
(.br 13 [] (.bad 70 [])
(.df (.rlen 19) [(.cat [(.a [(.i 0),(.i 1),(.i 4),(.i 6),(.i 0),(.i 0),(.i 0),(.i 0),(.i 0),(.i 0),(.i 0),(.i 3),(.i 0),(.i 0),(.i 0),(.i 0),(.i 0),(.i 0),(.k (.slice none 0 0))])])] .one
(.df (.bin .add 3) [(.i 7),(.q 14)] .one
(.df (.bin .sub 3) [(.q 15),(.i 1)] .one
(.df (.bin .gtr 3) [(.q 16),(.i 1048576)] .one
(.br 17 [] (.bad 70 [])
(.df (.rlen 19) [(.cat [(.a [(.i 0),(.i 1),(.i 4),(.i 6),(.i 0),(.i 0),(.i 0),(.i 0),(.i 0),(.i 0),(.i 0),(.i 3),(.i 0),(.i 0),(.i 0),(.i 0),(.i 0),(.i 0),(.k (.slice none 0 0))])])] .one
(.df (.bin .lss 3) [(.i 0),(.q 18)] .one
(.br 19 []
(.df (.snil false) [(.sl 11 0 2 2)] .one
(.br 20 [] (.bad 70 [])
(.df (.app 1 8 (.own 1 [(.i 2),(.i 5)])) [(.cat []),(.sl 11 0 2 2)] .any
(.df (.rbnd 19) [(.cat [(.a [(.i 0),(.i 1),(.i 4),(.i 6),(.i 0),(.i 0),(.i 0),(.i 0),(.i 0),(.i 0),(.i 0),(.i 3),(.i 0),(.i 0),(.i 0),(.i 0),(.i 0),(.i 0),(.k (.slice none 0 0))])]),(.i 0)] .one
(.df (.rbnd 19) [(.cat [(.a [(.i 0),(.i 1),(.i 4),(.i 6),(.i 0),(.i 0),(.i 0),(.i 0),(.i 0),(.i 0),(.i 0),(.i 3),(.i 0),(.i 0),(.i 0),(.i 0),(.i 0),(.i 0),(.k (.slice none 0 0))])]),(.i 0)] .one
(.df (.rbnd 19) [(.cat [(.a [(.i 0),(.i 1),(.i 4),(.i 6),(.i 0),(.i 0),(.i 0),(.i 0),(.i 0),(.i 0),(.i 0),(.i 3),(.i 0),(.i 0),(.i 0),(.i 0),(.i 0),(.i 0),(.k (.slice none 0 0))])]),(.i 0)] .one
(.df (.rbnd 19) [(.cat [(.a [(.i 0),(.i 1),(.i 4),(.i 6),(.i 0),(.i 0),(.i 0),(.i 0),(.i 0),(.i 0),(.i 0),(.i 3),(.i 0),(.i 0),(.i 0),(.i 0),(.i 0),(.i 0),(.k (.slice none 0 0))])]),(.i 0)] .one
(.df (.bin .lss 3) [(.i 1),(.q 18)] .one
(.br 26 [] (.bad 70 [])
(.df (.call 14 [(.own 14 [(.i 4),(.i 1),(.i 2),(.i 1),(.i 4),(.i 1),(.i 7),(.i 2),(.i 0),(.i 0),(.i 0),(.i 1),(.i 1),(.i 2)])]) [(.sl 1 0 1 1)] .one
(.df (.call 14 [(.own 14 [(.i 4),(.i 1),(.i 2),(.i 1),(.i 4),(.i 1),(.i 7),(.i 2),(.i 0),(.i 0),(.i 0),(.i 1),(.i 1),(.i 2)])]) [(.sl 1 0 1 1)] .one
(.df (.bin .neq 31) [(.q 27),(.i 0)] .one
(.br 29 [] (.bad 70 [])
(.df (.bin .neq 31) [(.q 28),(.i 0)] .one
(.br 30 [] (.bad 70 [])
(.df (.eqr true 2 [(.i .i64),(.i .i64)]) [(.i 0),(.i 1),(.i 0),(.i 1)] .one
(.br 31 [] (.bad 70 [])
(.df (.eqr true 2 [(.i .i64),(.i .i64)]) [(.i 1),(.i 2),(.i 1),(.i 2)] .one
(.br 32 [] (.bad 70 [])
(.df (.call 14 [(.own 14 [(.i 4),(.i 1),(.i 2),(.i 1),(.i 4),(.i 1),(.i 7),(.i 2),(.i 0),(.i 0),(.i 0),(.i 1),(.i 1),(.i 2)])]) [(.sl 1 0 1 1)] .one
(.df (.call 14 [(.own 14 [(.i 4),(.i 1),(.i 2),(.i 1),(.i 4),(.i 1),(.i 7),(.i 2),(.i 0),(.i 0),(.i 0),(.i 1),(.i 1),(.i 2)])]) [(.sl 1 0 1 1)] .one
(.df (.bin .neq 31) [(.q 33),(.i 0)] .one
(.br 35 [] (.bad 70 [])
(.df (.bin .neq 31) [(.q 34),(.i 0)] .one
(.br 36 [] (.bad 70 [])
(.df (.bin .neq 31) [(.x 0 [1]),(.i 0)] .one
(.br 37 [] (.bad 70 [])
(.df (.bin .neq 31) [(.x 1 [1]),(.i 0)] .one
(.br 38 [] (.bad 70 [])
(.df (.bin .neq 31) [(.x 2 [1]),(.i 0)] .one
(.br 39 [] (.bad 70 [])
(.df (.bin .neq 31) [(.x 3 [1]),(.i 360)] .one
(.br 40 [] (.bad 70 [])
(.df (.bin .neq 31) [(.x 4 [1]),(.i 360)] .one
(.br 41 [] (.bad 70 [])
(.df (.rlen 14) [(.cat [(.x 2 [0])])] .one
(.df (.bin .neq 3) [(.q 42),(.i 0)] .one
(.br 43 [] (.bad 70 [])
(.df (.call 14 [(.own 14 [])]) [(.k (.slice none 0 0))] .one
(.df (.bin .neq 31) [(.q 44),(.i 0)] .one
(.br 45 [] (.bad 70 [])
(.df (.call 14 [(.own 14 [(.i 4),(.i 1),(.i 2),(.i 1),(.i 4),(.i 1),(.i 7),(.i 2),(.i 0),(.i 0),(.i 0),(.i 1),(.i 1),(.i 2),(.i 4),(.i 1),(.i 2),(.i 1),(.i 4),(.i 1),(.i 7),(.i 2),(.i 0),(.i 0),(.i 0),(.i 1),(.i 1),(.i 2)])]) [(.sl 48 0 2 2)] .one
(.df (.bin .neq 31) [(.q 46),(.i 360)] .one
(.br 47 [] (.bad 70 [])
(.df (.mks (.agg #[(.int .i64 0),(.int .i64 0),(.int .i64 0),(.int .i64 0),(.int .i64 0),(.int .i64 0),(.int .i64 0),(.int .i64 0),(.int .i64 0),(.int .i64 0),(.int .i64 0),(.int .i64 0),(.int .i64 0),(.int .i64 0)]) 14 112) [(.i 4097),(.i 4097)] .any
(.df (.call 14 [(.row 14 [(.q 48)])]) [(.row 49)] .one
(.df (.bin .neq 31) [(.q 49),(.i 2)] .one
(.br 50 [] (.bad 70 [])
(.df (.call 16 [(.row 14 [(.x 0 [0])]),(.own 14 [(.i 4),(.i 1),(.i 2),(.i 1),(.i 4),(.i 2),(.i 3),(.i 2),(.i 0),(.i 0),(.i 0),(.i 1),(.i 1),(.i 2)])]) [(.row 5),(.sl 50 0 1 1)] .one
(.br 51 []
(.df (.call 16 [(.row 14 [(.x 1 [0])]),(.own 14 [(.i 4),(.i 1),(.i 2),(.i 1),(.i 4),(.i 1),(.i 7),(.i 2),(.i 0),(.i 0),(.i 0),(.i 1),(.i 1),(.i 4)])]) [(.row 6),(.sl 51 0 1 1)] .one
(.br 52 []
(.df (.rlen 19) [(.cat [(.a [(.i 0),(.i 1),(.i 4),(.i 6),(.i 0),(.i 0),(.i 0),(.i 0),(.i 0),(.i 0),(.i 0),(.i 3),(.i 0),(.i 0),(.i 0),(.i 0),(.i 0),(.i 0),(.k (.slice none 0 0))])])] .one
(.df (.bin .neq 3) [(.q 53),(.i 1)] .one
(.br 54 [] (.bad 70 [])
(.df (.rlen 19) [(.cat [(.a [(.i 0),(.i 1),(.i 4),(.i 6),(.i 0),(.i 0),(.i 0),(.i 0),(.i 0),(.i 0),(.i 0),(.i 3),(.i 0),(.i 0),(.i 0),(.i 0),(.i 0),(.i 0),(.k (.slice none 0 0))])])] .one
(.df (.bin .lss 3) [(.i 0),(.q 55)] .one
(.br 56 []
(.df (.rbnd 19) [(.cat [(.a [(.i 0),(.i 1),(.i 4),(.i 6),(.i 0),(.i 0),(.i 0),(.i 0),(.i 0),(.i 0),(.i 0),(.i 3),(.i 0),(.i 0),(.i 0),(.i 0),(.i 0),(.i 0),(.k (.slice none 0 0))])]),(.i 0)] .one
(.df (.eqr false 14 [(.i .i64),(.i .i64),(.i .i64),(.i .i64),(.i .i64),(.i .i64),(.i .i64),(.i .i64),(.i .i64),(.i .i64),(.i .i64),(.i .i64),(.i .i64),(.i .i64)]) [(.i 0),(.i 0),(.i 0),(.i 0),(.i 0),(.i 0),(.i 0),(.i 3),(.i 0),(.i 0),(.i 0),(.i 0),(.i 0),(.i 0),(.i 0),(.i 0),(.i 0),(.i 0),(.i 0),(.i 0),(.i 0),(.i 3),(.i 0),(.i 0),(.i 0),(.i 0),(.i 0),(.i 0)] .one
(.br 58 []
(.df (.rlen 1) [(.cat [(.a [(.i 2),(.i 5)])])] .one
(.df (.bin .neq 3) [(.q 59),(.i 2)] .one
(.br 60 [] (.bad 70 [])
(.df (.rlen 1) [(.cat [(.a [(.i 2),(.i 5)])])] .one
(.df (.bin .lss 3) [(.i 0),(.q 61)] .one
(.br 62 []
(.df (.rbnd 1) [(.cat [(.a [(.i 2),(.i 5)])]),(.i 0)] .one
(.df (.rlen 1) [(.cat [(.a [(.i 2),(.i 5)])])] .one
(.df (.bin .lss 3) [(.i 1),(.q 64)] .one
(.br 65 []
(.df (.rbnd 1) [(.cat [(.a [(.i 2),(.i 5)])]),(.i 1)] .one
(.df (.rlen 1) [(.cat [(.a [(.i 2),(.i 5)])])] .one
(.df (.bin .lss 3) [(.i 2),(.q 67)] .one
(.br 68 [] (.bad 70 [])
(.df (.rlen 19) [(.cat [(.a [(.i 0),(.i 1),(.i 4),(.i 6),(.i 0),(.i 0),(.i 0),(.i 0),(.i 0),(.i 0),(.i 0),(.i 3),(.i 0),(.i 0),(.i 0),(.i 0),(.i 0),(.i 0),(.k (.slice none 0 0))])])] .one
(.df (.bin .lss 3) [(.i 1),(.q 69)] .one
(.br 70 [] (.bad 70 [])
(.ret (.k (.bool true)) [] [])))))))) (.bad 70 []))))) (.bad 70 []))))))) (.bad 70 [])))) (.bad 70 []))))))) (.bad 70 []))) (.bad 70 []))))))))))))))))))))))))))))))))))))))))))))))))))) (.bad 70 []))))))))))))))))))))))))))))
set_option maxRecDepth 100000 in
theorem run_sane36(K A:Value→Nat→List Value→Prop):(SX.run (cxE5 K A) ⟨fun _=>true,[],0,100⟩ 100000 0 (SX.door 10 Try.f10 [] []) [.code (Try.f10.body.getD .skip),.top Try.f10]).strip=tree_sane36:=by kernel_rfl
set_option maxRecDepth 100000 in
set_option maxHeartbeats 4000000 in
theorem sane36_any(w:World):Calls Try.prog 10 #[] w fun e w'=>e=.returned (.bool true)∧Below w.heap.size w w':=by
 refine SX.calls_of_run (C:=cxE5 (fun _ _ _=>False) (fun _ _ _=>False)) (G:=⟨fun _=>true,[],0,100⟩) (args:=[]) (sh:=[]) (ρ:=[]) 100000 tree_sane36 (okE5 _ _) Try.func10 rfl (run_sane36 _ _) (by kernel_rfl) (by kernel_rfl) (by kernel_rfl) (fun W _=>SX.Kf_none (fun _ _ _ h=>h) W) ?_
 unfold tree_sane36
 refine SX.VC_df (.tuple #[.agg (sgsL ([⟨4,1,2,1,4,2,3,2,0,0,0,1,1,2⟩]:List Sg)).toArray,.int .i64 0]) (fun α=>⟨[⟨(.slice (some ⟨(α 1).b,0,none⟩) 1 1),14,sgsL ([⟨4,1,2,1,4,1,7,2,0,0,0,1,1,2⟩]:List Sg)⟩,⟨valE (⟨1,0,0,0,9,0,0,0,zeroSg⟩:Ed),0,[]⟩],⟨by kernel_rfl,by kernel_rfl,by kernel_rfl,trivial⟩,.inl ⟨rfl,_,([⟨4,1,2,1,4,1,7,2,0,0,0,1,1,2⟩]:List Sg),(⟨1,0,0,0,9,0,0,0,zeroSg⟩:Ed),rfl,by decide,by decide,by rw [sane_a1]⟩,SX.noAli rfl⟩) (sgs_fit _ _) ?_
 refine SX.VC_df (.tuple #[.agg (sgsL ([⟨4,1,2,1,4,1,7,2,0,0,0,1,1,4⟩]:List Sg)).toArray,.int .i64 0]) (fun α=>⟨[⟨(.slice (some ⟨(α 1).b,0,none⟩) 1 1),14,sgsL ([⟨4,1,2,1,4,1,7,2,0,0,0,1,1,2⟩]:List Sg)⟩,⟨valE (⟨7,2,0,0,2,0,1,2,zeroSg⟩:Ed),0,[]⟩],⟨by kernel_rfl,by kernel_rfl,by kernel_rfl,trivial⟩,.inl ⟨rfl,_,([⟨4,1,2,1,4,1,7,2,0,0,0,1,1,2⟩]:List Sg),(⟨7,2,0,0,2,0,1,2,zeroSg⟩:Ed),rfl,by decide,by decide,by rw [sane_a7]⟩,SX.noAli rfl⟩) (sgs_fit _ _) ?_
 refine SX.VC_df (.tuple #[.agg (sgsL ([]:List Sg)).toArray,.int .i64 0]) (fun α=>⟨[⟨(.slice (some ⟨(α 1).b,0,none⟩) 1 1),14,sgsL ([⟨4,1,2,1,4,1,7,2,0,0,0,1,1,2⟩]:List Sg)⟩,⟨valE (⟨3,0,0,2,3,0,0,0,zeroSg⟩:Ed),0,[]⟩],⟨by kernel_rfl,by kernel_rfl,by kernel_rfl,trivial⟩,.inl ⟨rfl,_,([⟨4,1,2,1,4,1,7,2,0,0,0,1,1,2⟩]:List Sg),(⟨3,0,0,2,3,0,0,0,zeroSg⟩:Ed),rfl,by decide,by decide,by rw [sane_a3]⟩,SX.noAli rfl⟩) (sgs_fit _ _) ?_
 refine SX.VC_df (.tuple #[.agg (sgsL ([]:List Sg)).toArray,.int .i64 360]) (fun α=>⟨[⟨(.slice none 0 0),14,sgsL ([]:List Sg)⟩,⟨valE (⟨0,0,0,0,0,0,0,0,zeroSg⟩:Ed),0,[]⟩],⟨by kernel_rfl,by kernel_rfl,by kernel_rfl,trivial⟩,.inl ⟨rfl,_,([]:List Sg),(⟨0,0,0,0,0,0,0,0,zeroSg⟩:Ed),rfl,by decide,by decide,by rw [sane_a0]⟩,SX.noAli rfl⟩) (sgs_fit _ _) ?_
 refine SX.VC_df (.tuple #[.agg (sgsL ([]:List Sg)).toArray,.int .i64 360]) (fun α=>⟨[⟨(.slice none 0 0),14,sgsL ([]:List Sg)⟩,⟨valE (⟨2,0,0,0,0,8,0,0,zeroSg⟩:Ed),0,[]⟩],⟨by kernel_rfl,by kernel_rfl,by kernel_rfl,trivial⟩,.inl ⟨rfl,_,([]:List Sg),(⟨2,0,0,0,0,8,0,0,zeroSg⟩:Ed),rfl,by decide,by decide,by rw [sane_a2]⟩,SX.noAli rfl⟩) (sgs_fit _ _) ?_
 refine SX.E (.int .i64 0) (fun α=>⟨[⟨(.slice (some ⟨(α 1).b,0,none⟩) 1 1),14,sgsL ([⟨4,1,2,1,4,1,7,2,0,0,0,1,1,2⟩]:List Sg)⟩],⟨by kernel_rfl,trivial⟩,.inr (.inl ⟨rfl,_,([⟨4,1,2,1,4,1,7,2,0,0,0,1,1,2⟩]:List Sg),rfl,by decide,by kernel_rfl⟩),SX.noAli rfl⟩) ?_
 refine SX.E (.int .i64 0) (fun α=>⟨[⟨(.slice (some ⟨(α 10).b,0,none⟩) 1 1),14,sgsL ([⟨4,1,2,1,4,1,7,3,0,0,0,1,1,2⟩]:List Sg)⟩],⟨by kernel_rfl,trivial⟩,.inr (.inl ⟨rfl,_,([⟨4,1,2,1,4,1,7,3,0,0,0,1,1,2⟩]:List Sg),rfl,by decide,by kernel_rfl⟩),SX.noAli rfl⟩) ?_
 refine SX.D (.bool false) ?_
 refine SX.B false (fun h=>Bool.noConfusion h) (fun _=>?_)
 refine SX.D (.bool false) ?_
 refine SX.B false (fun h=>Bool.noConfusion h) (fun _=>?_)
 refine SX.E (.agg ([.int .i64 0,.int .i64 1,.int .i64 4,.int .i64 6,.int .i64 0,.int .i64 0,.int .i64 0,.int .i64 0,.int .i64 0,.int .i64 0,.int .i64 0,.int .i64 3,.int .i64 0,.int .i64 0,.int .i64 0,.int .i64 0,.int .i64 0,.int .i64 0,.slice none 0 0]:List Value).toArray) (fun α=>SX.app_k (cs:=[.int .i64 0,.int .i64 1,.int .i64 4,.int .i64 6,.int .i64 0,.int .i64 0,.int .i64 0,.int .i64 0,.int .i64 0,.int .i64 0,.int .i64 0,.int .i64 3,.int .i64 0,.int .i64 0,.int .i64 0,.int .i64 0,.int .i64 0,.int .i64 0,.slice none 0 0]) (by kernel_rfl) (by kernel_rfl) (by decide) (by decide)) ?_
 refine SX.E (.bool (true ^^ decide (([0,1]:List Int)=[0,1]))) (fun α=>SX.eqr_rel (f:=intI) intI_inj (y:=[0,1]) (z:=[0,1]) (by kernel_rfl) (by kernel_rfl) (by kernel_rfl)) ?_
 refine SX.B false (fun h=>Bool.noConfusion h) (fun _=>?_)
 refine SX.E (.bool (true ^^ decide (([1,2]:List Int)=[1,2]))) (fun α=>SX.eqr_rel (f:=intI) intI_inj (y:=[1,2]) (z:=[1,2]) (by kernel_rfl) (by kernel_rfl) (by kernel_rfl)) ?_
 refine SX.B false (fun h=>Bool.noConfusion h) (fun _=>?_)
 refine SX.E (.int .i64 1) (fun α=>(by show _=_;kernel_rfl)) ?_
 refine SX.D (.bool false) ?_
 refine SX.B false (fun h=>Bool.noConfusion h) (fun _=>?_)
 refine SX.E (.int .i64 1) (fun α=>(by show _=_;kernel_rfl)) ?_
 refine SX.D (.int .i64 8) ?_
 refine SX.D (.int .i64 7) ?_
 refine SX.D (.bool false) ?_
 refine SX.B false (fun h=>Bool.noConfusion h) (fun _=>?_)
 refine SX.E (.int .i64 1) (fun α=>(by show _=_;kernel_rfl)) ?_
 refine SX.D (.bool true) ?_
 refine SX.B true (fun _=>?_) (fun h=>Bool.noConfusion h)
 refine SX.E (.bool false) (fun α=>⟨some ⟨(α 11).b,0,none⟩,2,2,by kernel_rfl,rfl⟩) ?_
 refine SX.B false (fun h=>Bool.noConfusion h) (fun _=>?_)
 refine SX.E (.agg ([.int .i64 2,.int .i64 5]:List Value).toArray) (fun α=>SX.app_k (cs:=[.int .i64 2,.int .i64 5]) (by kernel_rfl) (by kernel_rfl) (by decide) (by decide)) ?_
 refine SX.E (.bool true) (fun α=>SX.rbnd_k (L:=19) (j:=0) (by kernel_rfl) (by kernel_rfl) (by decide)) ?_
 refine SX.E (.bool true) (fun α=>SX.rbnd_k (L:=19) (j:=0) (by kernel_rfl) (by kernel_rfl) (by decide)) ?_
 refine SX.E (.bool true) (fun α=>SX.rbnd_k (L:=19) (j:=0) (by kernel_rfl) (by kernel_rfl) (by decide)) ?_
 refine SX.E (.bool true) (fun α=>SX.rbnd_k (L:=19) (j:=0) (by kernel_rfl) (by kernel_rfl) (by decide)) ?_
 refine SX.D (.bool false) ?_
 refine SX.B false (fun h=>Bool.noConfusion h) (fun _=>?_)
 refine SX.E (.int .i64 0) (fun α=>⟨[⟨(.slice (some ⟨(α 1).b,0,none⟩) 1 1),14,sgsL ([⟨4,1,2,1,4,1,7,2,0,0,0,1,1,2⟩]:List Sg)⟩],⟨by kernel_rfl,trivial⟩,.inr (.inl ⟨rfl,_,([⟨4,1,2,1,4,1,7,2,0,0,0,1,1,2⟩]:List Sg),rfl,by decide,by kernel_rfl⟩),SX.noAli rfl⟩) ?_
 refine SX.E (.int .i64 0) (fun α=>⟨[⟨(.slice (some ⟨(α 1).b,0,none⟩) 1 1),14,sgsL ([⟨4,1,2,1,4,1,7,2,0,0,0,1,1,2⟩]:List Sg)⟩],⟨by kernel_rfl,trivial⟩,.inr (.inl ⟨rfl,_,([⟨4,1,2,1,4,1,7,2,0,0,0,1,1,2⟩]:List Sg),rfl,by decide,by kernel_rfl⟩),SX.noAli rfl⟩) ?_
 refine SX.D (.bool false) ?_
 refine SX.B false (fun h=>Bool.noConfusion h) (fun _=>?_)
 refine SX.D (.bool false) ?_
 refine SX.B false (fun h=>Bool.noConfusion h) (fun _=>?_)
 refine SX.E (.bool (true ^^ decide (([0,1]:List Int)=[0,1]))) (fun α=>SX.eqr_rel (f:=intI) intI_inj (y:=[0,1]) (z:=[0,1]) (by kernel_rfl) (by kernel_rfl) (by kernel_rfl)) ?_
 refine SX.B false (fun h=>Bool.noConfusion h) (fun _=>?_)
 refine SX.E (.bool (true ^^ decide (([1,2]:List Int)=[1,2]))) (fun α=>SX.eqr_rel (f:=intI) intI_inj (y:=[1,2]) (z:=[1,2]) (by kernel_rfl) (by kernel_rfl) (by kernel_rfl)) ?_
 refine SX.B false (fun h=>Bool.noConfusion h) (fun _=>?_)
 refine SX.E (.int .i64 0) (fun α=>⟨[⟨(.slice (some ⟨(α 1).b,0,none⟩) 1 1),14,sgsL ([⟨4,1,2,1,4,1,7,2,0,0,0,1,1,2⟩]:List Sg)⟩],⟨by kernel_rfl,trivial⟩,.inr (.inl ⟨rfl,_,([⟨4,1,2,1,4,1,7,2,0,0,0,1,1,2⟩]:List Sg),rfl,by decide,by kernel_rfl⟩),SX.noAli rfl⟩) ?_
 refine SX.E (.int .i64 0) (fun α=>⟨[⟨(.slice (some ⟨(α 1).b,0,none⟩) 1 1),14,sgsL ([⟨4,1,2,1,4,1,7,2,0,0,0,1,1,2⟩]:List Sg)⟩],⟨by kernel_rfl,trivial⟩,.inr (.inl ⟨rfl,_,([⟨4,1,2,1,4,1,7,2,0,0,0,1,1,2⟩]:List Sg),rfl,by decide,by kernel_rfl⟩),SX.noAli rfl⟩) ?_
 refine SX.D (.bool false) ?_
 refine SX.B false (fun h=>Bool.noConfusion h) (fun _=>?_)
 refine SX.D (.bool false) ?_
 refine SX.B false (fun h=>Bool.noConfusion h) (fun _=>?_)
 refine SX.D (.bool false) ?_
 refine SX.B false (fun h=>Bool.noConfusion h) (fun _=>?_)
 refine SX.D (.bool false) ?_
 refine SX.B false (fun h=>Bool.noConfusion h) (fun _=>?_)
 refine SX.D (.bool false) ?_
 refine SX.B false (fun h=>Bool.noConfusion h) (fun _=>?_)
 refine SX.D (.bool false) ?_
 refine SX.B false (fun h=>Bool.noConfusion h) (fun _=>?_)
 refine SX.D (.bool false) ?_
 refine SX.B false (fun h=>Bool.noConfusion h) (fun _=>?_)
 refine SX.E (.int .i64 0) (fun α=>(by show _=_;kernel_rfl)) ?_
 refine SX.D (.bool false) ?_
 refine SX.B false (fun h=>Bool.noConfusion h) (fun _=>?_)
 refine SX.E (.int .i64 0) (fun α=>⟨[⟨(.slice none 0 0),14,sgsL ([]:List Sg)⟩],⟨by kernel_rfl,trivial⟩,.inr (.inl ⟨rfl,_,([]:List Sg),rfl,by decide,by kernel_rfl⟩),SX.noAli rfl⟩) ?_
 refine SX.D (.bool false) ?_
 refine SX.B false (fun h=>Bool.noConfusion h) (fun _=>?_)
 refine SX.E (.int .i64 360) (fun α=>⟨[⟨(.slice (some ⟨(α 48).b,0,none⟩) 2 2),14,sgsL ([⟨4,1,2,1,4,1,7,2,0,0,0,1,1,2⟩,⟨4,1,2,1,4,1,7,2,0,0,0,1,1,2⟩]:List Sg)⟩],⟨by kernel_rfl,trivial⟩,.inr (.inl ⟨rfl,_,([⟨4,1,2,1,4,1,7,2,0,0,0,1,1,2⟩,⟨4,1,2,1,4,1,7,2,0,0,0,1,1,2⟩]:List Sg),rfl,by decide,by kernel_rfl⟩),SX.noAli rfl⟩) ?_
 refine SX.D (.bool false) ?_
 refine SX.B false (fun h=>Bool.noConfusion h) (fun _=>?_)
 refine SX.E (.agg (sgsL (List.replicate 4097 zeroSg)).toArray) (fun α=>⟨.i64,.i64,4097,4097,by kernel_rfl,by kernel_rfl,by decide,by decide,by decide,by decide,mks_val.trans (by kernel_rfl)⟩) ?_
 refine SX.E (.int .i64 2) (fun α=>⟨[⟨(α 49).h,14,sgsL (List.replicate 4097 zeroSg)⟩],⟨Eq.trans (b:=⟨(α 49).h,14,[Value.agg (sgsL (List.replicate 4097 zeroSg)).toArray].flatMap SX.cellsV⟩) (by simp [SX.cellsV]) (by kernel_rfl),trivial⟩,.inr (.inl ⟨rfl,_,List.replicate 4097 zeroSg,rfl,(by rw [List.length_replicate];decide),by rw [sane_rep]⟩),SX.noAli rfl⟩) ?_
 refine SX.D (.bool false) ?_
 refine SX.B false (fun h=>Bool.noConfusion h) (fun _=>?_)
 refine SX.E (.bool true) (fun α=>⟨[⟨(α 5).h,14,sgsL ([⟨4,1,2,1,4,2,3,2,0,0,0,1,1,2⟩]:List Sg)⟩,⟨(.slice (some ⟨(α 50).b,0,none⟩) 1 1),14,sgsL ([⟨4,1,2,1,4,2,3,2,0,0,0,1,1,2⟩]:List Sg)⟩],⟨by kernel_rfl,by kernel_rfl,trivial⟩,.inr (.inr (⟨rfl,_,_,([⟨4,1,2,1,4,2,3,2,0,0,0,1,1,2⟩]:List Sg),([⟨4,1,2,1,4,2,3,2,0,0,0,1,1,2⟩]:List Sg),rfl,by decide,by decide,by kernel_rfl⟩)),SX.noAli rfl⟩) ?_
 refine SX.B true (fun _=>?_) (fun h=>Bool.noConfusion h)
 refine SX.E (.bool true) (fun α=>⟨[⟨(α 6).h,14,sgsL ([⟨4,1,2,1,4,1,7,2,0,0,0,1,1,4⟩]:List Sg)⟩,⟨(.slice (some ⟨(α 51).b,0,none⟩) 1 1),14,sgsL ([⟨4,1,2,1,4,1,7,2,0,0,0,1,1,4⟩]:List Sg)⟩],⟨by kernel_rfl,by kernel_rfl,trivial⟩,.inr (.inr (⟨rfl,_,_,([⟨4,1,2,1,4,1,7,2,0,0,0,1,1,4⟩]:List Sg),([⟨4,1,2,1,4,1,7,2,0,0,0,1,1,4⟩]:List Sg),rfl,by decide,by decide,by kernel_rfl⟩)),SX.noAli rfl⟩) ?_
 refine SX.B true (fun _=>?_) (fun h=>Bool.noConfusion h)
 refine SX.E (.int .i64 1) (fun α=>(by show _=_;kernel_rfl)) ?_
 refine SX.D (.bool false) ?_
 refine SX.B false (fun h=>Bool.noConfusion h) (fun _=>?_)
 refine SX.E (.int .i64 1) (fun α=>(by show _=_;kernel_rfl)) ?_
 refine SX.D (.bool true) ?_
 refine SX.B true (fun _=>?_) (fun h=>Bool.noConfusion h)
 refine SX.E (.bool true) (fun α=>SX.rbnd_k (L:=19) (j:=0) (by kernel_rfl) (by kernel_rfl) (by decide)) ?_
 refine SX.E (.bool (false ^^ decide (([0,0,0,0,0,0,0,3,0,0,0,0,0,0]:List Int)=[0,0,0,0,0,0,0,3,0,0,0,0,0,0]))) (fun α=>SX.eqr_rel (f:=intI) intI_inj (y:=[0,0,0,0,0,0,0,3,0,0,0,0,0,0]) (z:=[0,0,0,0,0,0,0,3,0,0,0,0,0,0]) (by kernel_rfl) (by kernel_rfl) (by kernel_rfl)) ?_
 refine SX.B true (fun _=>?_) (fun h=>Bool.noConfusion h)
 refine SX.E (.int .i64 2) (fun α=>(by show _=_;kernel_rfl)) ?_
 refine SX.D (.bool false) ?_
 refine SX.B false (fun h=>Bool.noConfusion h) (fun _=>?_)
 refine SX.E (.int .i64 2) (fun α=>(by show _=_;kernel_rfl)) ?_
 refine SX.D (.bool true) ?_
 refine SX.B true (fun _=>?_) (fun h=>Bool.noConfusion h)
 refine SX.E (.bool true) (fun α=>SX.rbnd_k (L:=2) (j:=0) (by kernel_rfl) (by kernel_rfl) (by decide)) ?_
 refine SX.E (.int .i64 2) (fun α=>(by show _=_;kernel_rfl)) ?_
 refine SX.D (.bool true) ?_
 refine SX.B true (fun _=>?_) (fun h=>Bool.noConfusion h)
 refine SX.E (.bool true) (fun α=>SX.rbnd_k (L:=2) (j:=1) (by kernel_rfl) (by kernel_rfl) (by decide)) ?_
 refine SX.E (.int .i64 2) (fun α=>(by show _=_;kernel_rfl)) ?_
 refine SX.D (.bool false) ?_
 refine SX.B false (fun h=>Bool.noConfusion h) (fun _=>?_)
 refine SX.E (.int .i64 1) (fun α=>(by show _=_;kernel_rfl)) ?_
 refine SX.D (.bool false) ?_
 refine SX.B false (fun h=>Bool.noConfusion h) (fun _=>?_)
 exact SX.VC_ret fun α W _ _ hS=>SX.ret_of hS (x:=.bool true) (by kernel_rfl) rfl
def LN(R:List Pt)(needs:List Int)(A:Option Addr)(n c:Nat)(hs:List Hd):List SX.Arg:=⟨.slice A n c,19,phL (R.zip hs)⟩::hs.map fun h=>(⟨Hd.v h,1,intsL needs⟩:SX.Arg)
def RnD(K:Value→Nat→List Value→Prop)(f:FuncId)(xs:List SX.Arg)(Q:Value→List SX.Arg→Prop):Prop:=f=17∧∃ (u1 u2 u3:Value) (a b:List Sg) (first:Int) (needs:List Int),xs=[⟨u1,14,sgsL a⟩,⟨u2,14,sgsL b⟩,⟨.int .i64 first,0,[]⟩,⟨u3,1,intsL needs⟩]∧a.length≤9223372036854775807∧b.length≤9223372036854775807∧needs.length≤9223372036854775807 ∧
 ∀ A n c (hs:List Hd),n=(diffR a b first needs).1.length→hs.length=n→Q (.tuple #[.slice A n c,.int .i64 (diffR a b first needs).2]) (LN (diffR a b first needs).1 needs A n c hs)
def nshD:FuncId→Option SX.Sh:=fun f=>if f=17 then some (.tp [.one,.one])else none
theorem rnD_ok(C:SX.Cx)(hP:C.P=Try.prog)(hs:C.nsh=nshD)(hR:C.Rn=RnD):C.OkN:=by
 intro f sh hf K xs Q W h hrd hK
 rw [hR]at h
 rw [hs]at hf
 rw [hP]
 obtain⟨rfl,u1,u2,u3,a,b,first,needs,rfl,hla,hlb,hln,hQ⟩:=h
 have hf:some (SX.Sh.tp [.one,.one])=some sh:=hf
 cases hf
 obtain⟨A,n,c,rfl,hr,hc,e1⟩:=sgs_arg (hrd ⟨u1,14,sgsL a⟩ (by simp))
 obtain⟨B,m,d,rfl,hr2,hc2,e2⟩:=sgs_arg (hrd ⟨u2,14,sgsL b⟩ (by simp))
 obtain⟨D,k,e,rfl,hr3,hc3,e3⟩:=ints_arg (hrd ⟨u3,1,intsL needs⟩ (by simp))
 refine(diff_any a A n c b B m d first needs D k e W hr (by omega) hc hr2 (by omega) hc2 hr3 (by omega) hc3).mono ?_
 rintro e' w' ⟨hb,hdr,hs',he,hl,⟨⟨A2,n2,c2,rfl,hnc⟩,hrd2,hfr⟩,hh⟩
 have hn2:n2=(diffR a b first needs).1.length:=by
  have h0:(phL ((diffR a b first needs).1.zip hs')).length=n2*19:=hrd2.1.1
  rw [phL_len,List.length_zip]at h0
  omega
 refine⟨hb,_,_,he,rfl,hQ A2 n2 c2 hs' hn2 (by omega),fun y hy=>?_⟩
 rcases List.mem_cons.1 hy with rfl|hy
 ·exact⟨hrd2,hfr.resolve_right fun⟨y,hy,_⟩=>nomatch hy⟩
 obtain⟨h,hm,rfl⟩:=List.mem_map.1 hy
 obtain⟨_,h1,h2⟩:=hh h hm
 exact⟨h1,h2.resolve_right fun⟨y,hy,_⟩=>nomatch hy⟩
theorem diffR_len{a b:List Sg}{first:Int}{needs:List Int}:(diffR a b first needs).1.length≤512:=by
 unfold diffR
 split
 ·simp
 split
 ·simp
 split
 ·simp
 split
 ·simp
 split
 ·simp
 split
 ·simp
 simp only [num_len];omega
theorem zip_fst{R:List Pt}{hs:List Hd}(h:hs.length=R.length):(R.zip hs).map (·.1)=R:=List.map_fst_zip (by omega)
def RX(f:FuncId)(xs:List SX.Arg)(v:Value):Prop :=
 (f=10∧xs=[]∧v=.bool true) ∨
 (f=20∧∃ (u:Value) (ss:List Sg),xs=[⟨u,14,sgsL ss⟩]∧ss.length≤9223372036854775807∧v=.bool (decide (ss.length≤200∧okL ss))) ∨
 (f=16∧∃ (u u2:Value) (ss tt:List Sg),xs=[⟨u,14,sgsL ss⟩,⟨u2,14,sgsL tt⟩]∧ss.length≤9223372036854775807∧tt.length≤9223372036854775807∧v=.bool (decide (ss=tt)))
def shpX:FuncId→Option SX.Sh:=fun f=>if f=10 then some .one else if f=20 then some .one else if f=16 then some .one else none
noncomputable def cxX(nb:Nat)(K A:Value→Nat→List Value→Prop):SX.Cx:={ nsh:=nshD,Rn:=RnD,nb:=nb,trm:=true,del:=true,P:=Try.prog,R:=fun _=>RX,shp:=shpX,K:=K,A:=A }
theorem okX(nb:Nat)(K A:Value→Nat→List Value→Prop):(cxX nb K A).Ok:=by
 refine SX.Cx.ok_nd (fun _=>rfl) ?_ (rnD_ok _ rfl rfl rfl)
 intro K f xs v W hR hrd hKf
 rcases hR with ⟨rfl,rfl,rfl⟩|⟨rfl,u,ss,rfl,hl,rfl⟩|⟨rfl,u,u2,ss,tt,rfl,hl,hl2,rfl⟩
 ·exact(sane36_any W).mono fun e w' h=>SX.plainOk rfl h
 ·obtain⟨A,n,c,rfl,h2,h3,h4⟩:=sgs_arg (hrd ⟨u,14,sgsL ss⟩ (by simp))
  exact(lright_any ss A n c W h2 (by omega) h3).mono fun e w' h=>SX.plainOk rfl h
 obtain⟨A,n,c,rfl,h2,h3,h4⟩:=sgs_arg (hrd ⟨u,14,sgsL ss⟩ (by simp))
 obtain⟨A',n',c',rfl,h2',h3',h4'⟩:=sgs_arg (hrd ⟨u2,14,sgsL tt⟩ (by simp))
 exact(same_any ss tt A A' n c n' c' W h2 (by omega) h3 h2' (by omega) h3').mono fun e w' h=>SX.plainOk rfl h
def c16(t:Nat):List Value:=[.int .u16 (t:Int)]
def tsL(l:List Nat):List Value:=l.flatMap c16
theorem tsL_len(l:List Nat):(tsL l).length=l.length*1:=SX.flat_len (f:=c16) (fun _=>rfl) l
def KX(A:Option Addr)(n c:Nat)(a:List Sg)(B:Option Addr)(m d:Nat)(b:List Sg)(E:Option Addr)(p q:Nat)(ts:List Nat)(s:Value)(z:Nat)(xs:List Value):Prop :=
 (s=.slice A n c∧z=14∧xs=sgsL a)∨(s=.slice B m d∧z=14∧xs=sgsL b)∨(s=.slice E p q∧z=1∧xs=tsL ts)
theorem msI{C:SX.Cx}{ρ:List Value}{α:Nat→SX.AV}{b:List Sg}{i j nx nx':Nat}{L:List Ph}{l t l':List Qe}{M:Int→Option Sg}{G:Int×Int→Option Unit}{id:Int}{y:Sg}{x:SX.V}{vs:List SX.V}(hJ:J2 b i L l t M G)(hp:PutQ nx l (keyI id) (cellsSg y) nx' l')(hP:C.P=Try.prog:=by rfl) (hc:ρ.getD j undef=.agg (qCells nx l).toArray:=by kernel_rfl) (hx:x.den ρ α=keyI id:=by kernel_rfl) (hv:SX.denL ρ α vs=cellsSg y:=by kernel_rfl):SX.Opq.rel C ρ α (.mset 3 14 true) (.cat [.x j []]::x::vs) (.agg (qCells nx' l').toArray) :=
 SX.mset_rel hJ.m (fun _=>rfl) (hP▸kd_int) hJ.ks rfl (SX.cat1 hc) hx hv hp
theorem msP{C:SX.Cx}{ρ:List Value}{α:Nat→SX.AV}{b:List Sg}{i j nx nx':Nat}{L:List Ph}{l t t':List Qe}{M:Int→Option Sg}{G:Int×Int→Option Unit}{p:Pt}{x:SX.V}{vs:List SX.V}(hJ:J2 b i L l t M G)(hb:bndP p)(hp:PutQ nx t (keyPr (pairP p)) (yesC ()) nx' t')(hP:C.P=Try.prog:=by rfl) (hc:ρ.getD j undef=.agg (qCells nx t).toArray:=by kernel_rfl) (hx:x.den ρ α=keyPr (pairP p):=by kernel_rfl) (hv:SX.denL ρ α vs=yesC ():=by kernel_rfl):SX.Opq.rel C ρ α (.mset 56 1 false) (.cat [.x j []]::x::vs) (.agg (qCells nx' t').toArray) :=
 SX.mset_rel hJ.g (fun _=>rfl) (hP▸kd_pr) hJ.gk hb.key (SX.cat1 hc) hx hv hp
theorem agE{xs:List Value}{k nx ny:Nat}{l t:List Qe}{L:List Ph}(h:xs=[.int .i64 (k:Int),.agg ([Value.agg (phL L).toArray].flatMap SX.cellsV).toArray,.agg (qCells nx l).toArray,.agg (qCells ny t).toArray]:=by kernel_rfl):xs=[.int .i64 (k:Int),.agg (phL L).toArray,.agg (qCells nx l).toArray,.agg (qCells ny t).toArray]:=by
 rw [h];simp [SX.cellsV]
theorem bno{c:Bool}(h:c=true)(h2:c=false):False:=by rw [h]at h2;cases h2
def tree_lediff:SX.Tree :=
(.df (.call 10 []) [] .one
(.df .not [(.q 3)] .one
(.br 4 []
(.ret (.k (.bool false)) [] [])
(.df (.call 20 [(.ext 14)]) [(.q 0)] .one
(.df .not [(.q 5)] .one
(.br 6 []
(.ret (.k (.bool true)) [] [])
(.df (.call 20 [(.ext 14)]) [(.q 1)] .one
(.df .not [(.q 7)] .one
(.br 8 []
(.ret (.k (.bool true)) [] [])
(.df (.callq 17 [(.ext 14),(.ext 14),.no,(.own 1 [])]) [(.q 0),(.q 1),(.i 1),(.k (.slice none 0 0))] (.tp [.one,.one])
(.df (.bin .neq 31) [(.x 9 [1]),(.i 0)] .one
(.br 10 []
(.df (.len false) [(.x 9 [0])] .one
(.df (.bin .eql 3) [(.q 11),(.i 0)] .one
(.br 12 []
(.df (.bin .eql 31) [(.x 9 [1]),(.i 360)] .one
(.br 13 []
(.ret (.k (.bool true)) [] [])
(.df (.bin .eql 31) [(.x 9 [1]),(.i 2)] .one
(.ret (.q 14) [] []))))
(.ret (.k (.bool false)) [] []))))
(.df (.len false) [(.x 9 [0])] .one
(.df (.bin .eql 3) [(.q 11),(.i 0)] .one
(.df (.call 16 [(.ext 14),(.ext 14)]) [(.q 0),(.q 1)] .one
(.df (.binb .neq) [(.q 12),(.q 13)] .one
(.br 14 []
(.ret (.k (.bool false)) [] [])
(.df (.len false) [(.q 0)] .one
(.loop [(.i 0),(.a [(.i 0)])] [.one,.any]
(.df (.bin .lss 3) [(.q 16),(.q 15)] .one
(.br 18 []
(.df .bnd [(.q 0),(.q 16)] .one
(.df (.elems 14 0 14) [(.q 0),(.q 16)] (.ag 14)
(.df (.mset 3 14 true) [(.cat [(.q 17)]),(.x 20 [0]),(.x 20 [0]),(.x 20 [1]),(.x 20 [2]),(.x 20 [3]),(.x 20 [4]),(.x 20 [5]),(.x 20 [6]),(.x 20 [7]),(.x 20 [8]),(.x 20 [9]),(.x 20 [10]),(.x 20 [11]),(.x 20 [12]),(.x 20 [13])] .any
(.df (.bin .add 3) [(.q 16),(.i 1)] .one
(.again 0 [(.q 22),(.q 21)])))))
(.df (.app 19 168 (.ext 19)) [(.cat []),(.x 9 [0])] .any
(.loop [(.i 0),(.cat [(.q 19)]),(.q 17),(.a [(.i 0)])] [.one,.any,.any,.any]
(.df (.rlen 19) [(.cat [(.q 21)])] .one
(.df (.bin .gtr 3) [(.q 24),(.i 0)] .one
(.br 25 []
(.df (.len false) [(.q 2)] .one
(.df (.bin .lss 3) [(.q 20),(.q 26)] .one
(.br 27 []
(.df .bnd [(.q 2),(.q 20)] .one
(.df (.elem 1 0) [(.q 2),(.q 20)] .one
(.df (.conv .i64) [(.q 29)] .one
(.df (.rlen 19) [(.cat [(.q 21)])] .one
(.df (.bin .rem 3) [(.q 30),(.q 31)] .one
(.df (.rbnd 19) [(.cat [(.q 21)]),(.q 32)] .one
(.df (.relems 19 0 19) [(.cat [(.q 21)]),(.q 32)] (.ag 19)
(.df (.rcut false 19) [(.cat [(.q 21)]),(.q 32)] .one
(.df (.bin .add 3) [(.q 32),(.i 1)] .one
(.df (.rcut true 19) [(.cat [(.q 21)]),(.q 36)] .one
(.df (.rdel 19) [(.cat [(.q 21)]),(.q 32),(.q 36)] .any
(.df (.mlk false 56 1 false (.bool false)) [(.cat [(.q 23)]),(.a [(.x 34 [2]),(.x 34 [3])])] .one
(.br 39 []
(.ret (.k (.bool false)) [] [])
(.df (.mlk true 3 14 true (.agg #[(.int .i64 0),(.int .i64 0),(.int .i64 0),(.int .i64 0),(.int .i64 0),(.int .i64 0),(.int .i64 0),(.int .i64 0),(.int .i64 0),(.int .i64 0),(.int .i64 0),(.int .i64 0),(.int .i64 0),(.int .i64 0)])) [(.cat [(.q 22)]),(.x 34 [2])] (.tp [(.ag 14),.one])
(.df (.bin .eql 3) [(.x 34 [1]),(.i 2)] .one
(.br 41 []
(.br 40 [1]
(.ret (.k (.bool false)) [] [])
(.df (.bin .neq 3) [(.x 34 [4]),(.x 34 [2])] .one
(.br 42 []
(.ret (.k (.bool false)) [] [])
(.df (.mset 3 14 true) [(.cat [(.q 22)]),(.x 34 [2]),(.x 34 [4]),(.x 34 [5]),(.x 34 [6]),(.x 34 [7]),(.x 34 [8]),(.x 34 [9]),(.x 34 [10]),(.x 34 [11]),(.x 34 [12]),(.x 34 [13]),(.x 34 [14]),(.x 34 [15]),(.x 34 [16]),(.x 34 [17])] .any
(.df (.mset 56 1 false) [(.cat [(.q 23)]),(.a [(.x 34 [2]),(.x 34 [3])]),(.k (.bool true))] .any
(.df (.bin .add 3) [(.q 20),(.i 1)] .one
(.again 1 [(.q 45),(.cat [(.q 38)]),(.q 43),(.q 44)])))))))
(.df (.bin .eql 3) [(.x 34 [1]),(.i 3)] .one
(.br 42 []
(.df .not [(.x 40 [1])] .one
(.br 43 []
(.ret (.k (.bool false)) [] [])
(.df (.mdel 3 14) [(.cat [(.q 22)]),(.x 34 [2])] .any
(.df (.mset 56 1 false) [(.cat [(.q 23)]),(.a [(.x 34 [2]),(.x 34 [3])]),(.k (.bool true))] .any
(.df (.bin .add 3) [(.q 20),(.i 1)] .one
(.again 1 [(.q 46),(.cat [(.q 38)]),(.q 44),(.q 45)]))))))
(.df (.bin .eql 3) [(.x 34 [1]),(.i 1)] .one
(.br 43 []
(.df .not [(.x 40 [1])] .one
(.br 44 []
(.ret (.k (.bool false)) [] [])
(.df (.bin .eql 3) [(.x 34 [3]),(.i 1)] .one
(.br 45 []
(.df (.mset 3 14 true) [(.cat [(.q 22)]),(.x 34 [2]),(.x 40 [0,0]),(.x 34 [5]),(.x 40 [0,2]),(.x 40 [0,3]),(.x 40 [0,4]),(.x 40 [0,5]),(.x 40 [0,6]),(.x 40 [0,7]),(.x 40 [0,8]),(.x 40 [0,9]),(.x 40 [0,10]),(.x 40 [0,11]),(.x 40 [0,12]),(.x 40 [0,13])] .any
(.df (.mset 56 1 false) [(.cat [(.q 23)]),(.a [(.x 34 [2]),(.x 34 [3])]),(.k (.bool true))] .any
(.df (.bin .add 3) [(.q 20),(.i 1)] .one
(.again 1 [(.q 48),(.cat [(.q 38)]),(.q 46),(.q 47)]))))
(.df (.bin .eql 3) [(.x 34 [3]),(.i 2)] .one
(.br 46 []
(.df (.mset 3 14 true) [(.cat [(.q 22)]),(.x 34 [2]),(.x 40 [0,0]),(.x 40 [0,1]),(.x 34 [6]),(.x 40 [0,3]),(.x 40 [0,4]),(.x 40 [0,5]),(.x 40 [0,6]),(.x 40 [0,7]),(.x 40 [0,8]),(.x 40 [0,9]),(.x 40 [0,10]),(.x 40 [0,11]),(.x 40 [0,12]),(.x 40 [0,13])] .any
(.df (.mset 56 1 false) [(.cat [(.q 23)]),(.a [(.x 34 [2]),(.x 34 [3])]),(.k (.bool true))] .any
(.df (.bin .add 3) [(.q 20),(.i 1)] .one
(.again 1 [(.q 49),(.cat [(.q 38)]),(.q 47),(.q 48)]))))
(.df (.bin .eql 3) [(.x 34 [3]),(.i 3)] .one
(.br 47 []
(.df (.mset 3 14 true) [(.cat [(.q 22)]),(.x 34 [2]),(.x 40 [0,0]),(.x 40 [0,1]),(.x 40 [0,2]),(.x 34 [7]),(.x 40 [0,4]),(.x 40 [0,5]),(.x 40 [0,6]),(.x 40 [0,7]),(.x 40 [0,8]),(.x 40 [0,9]),(.x 40 [0,10]),(.x 40 [0,11]),(.x 40 [0,12]),(.x 40 [0,13])] .any
(.df (.mset 56 1 false) [(.cat [(.q 23)]),(.a [(.x 34 [2]),(.x 34 [3])]),(.k (.bool true))] .any
(.df (.bin .add 3) [(.q 20),(.i 1)] .one
(.again 1 [(.q 50),(.cat [(.q 38)]),(.q 48),(.q 49)]))))
(.df (.bin .eql 3) [(.x 34 [3]),(.i 4)] .one
(.br 48 []
(.df (.mset 3 14 true) [(.cat [(.q 22)]),(.x 34 [2]),(.x 40 [0,0]),(.x 40 [0,1]),(.x 40 [0,2]),(.x 40 [0,3]),(.x 40 [0,4]),(.x 34 [9]),(.x 40 [0,6]),(.x 40 [0,7]),(.x 40 [0,8]),(.x 40 [0,9]),(.x 40 [0,10]),(.x 40 [0,11]),(.x 40 [0,12]),(.x 40 [0,13])] .any
(.df (.mset 56 1 false) [(.cat [(.q 23)]),(.a [(.x 34 [2]),(.x 34 [3])]),(.k (.bool true))] .any
(.df (.bin .add 3) [(.q 20),(.i 1)] .one
(.again 1 [(.q 51),(.cat [(.q 38)]),(.q 49),(.q 50)]))))
(.df (.bin .eql 3) [(.x 34 [3]),(.i 5)] .one
(.br 49 []
(.df (.mset 3 14 true) [(.cat [(.q 22)]),(.x 34 [2]),(.x 40 [0,0]),(.x 40 [0,1]),(.x 40 [0,2]),(.x 40 [0,3]),(.x 40 [0,4]),(.x 40 [0,5]),(.x 34 [10]),(.x 40 [0,7]),(.x 40 [0,8]),(.x 40 [0,9]),(.x 40 [0,10]),(.x 40 [0,11]),(.x 40 [0,12]),(.x 40 [0,13])] .any
(.df (.mset 56 1 false) [(.cat [(.q 23)]),(.a [(.x 34 [2]),(.x 34 [3])]),(.k (.bool true))] .any
(.df (.bin .add 3) [(.q 20),(.i 1)] .one
(.again 1 [(.q 52),(.cat [(.q 38)]),(.q 50),(.q 51)]))))
(.df (.bin .eql 3) [(.x 34 [3]),(.i 6)] .one
(.br 50 []
(.df (.mset 3 14 true) [(.cat [(.q 22)]),(.x 34 [2]),(.x 40 [0,0]),(.x 40 [0,1]),(.x 40 [0,2]),(.x 40 [0,3]),(.x 40 [0,4]),(.x 40 [0,5]),(.x 40 [0,6]),(.x 34 [11]),(.x 40 [0,8]),(.x 40 [0,9]),(.x 40 [0,10]),(.x 40 [0,11]),(.x 40 [0,12]),(.x 40 [0,13])] .any
(.df (.mset 56 1 false) [(.cat [(.q 23)]),(.a [(.x 34 [2]),(.x 34 [3])]),(.k (.bool true))] .any
(.df (.bin .add 3) [(.q 20),(.i 1)] .one
(.again 1 [(.q 53),(.cat [(.q 38)]),(.q 51),(.q 52)]))))
(.df (.bin .eql 3) [(.x 34 [3]),(.i 7)] .one
(.br 51 []
(.df (.mset 3 14 true) [(.cat [(.q 22)]),(.x 34 [2]),(.x 40 [0,0]),(.x 40 [0,1]),(.x 40 [0,2]),(.x 40 [0,3]),(.x 40 [0,4]),(.x 40 [0,5]),(.x 40 [0,6]),(.x 40 [0,7]),(.x 34 [12]),(.x 40 [0,9]),(.x 40 [0,10]),(.x 40 [0,11]),(.x 40 [0,12]),(.x 40 [0,13])] .any
(.df (.mset 56 1 false) [(.cat [(.q 23)]),(.a [(.x 34 [2]),(.x 34 [3])]),(.k (.bool true))] .any
(.df (.bin .add 3) [(.q 20),(.i 1)] .one
(.again 1 [(.q 54),(.cat [(.q 38)]),(.q 52),(.q 53)]))))
(.df (.bin .eql 3) [(.x 34 [3]),(.i 8)] .one
(.br 52 []
(.df (.mset 3 14 true) [(.cat [(.q 22)]),(.x 34 [2]),(.x 40 [0,0]),(.x 40 [0,1]),(.x 40 [0,2]),(.x 40 [0,3]),(.x 40 [0,4]),(.x 40 [0,5]),(.x 40 [0,6]),(.x 40 [0,7]),(.x 40 [0,8]),(.x 34 [13]),(.x 40 [0,10]),(.x 40 [0,11]),(.x 40 [0,12]),(.x 40 [0,13])] .any
(.df (.mset 56 1 false) [(.cat [(.q 23)]),(.a [(.x 34 [2]),(.x 34 [3])]),(.k (.bool true))] .any
(.df (.bin .add 3) [(.q 20),(.i 1)] .one
(.again 1 [(.q 55),(.cat [(.q 38)]),(.q 53),(.q 54)]))))
(.df (.bin .eql 3) [(.x 34 [3]),(.i 9)] .one
(.br 53 []
(.df (.mset 3 14 true) [(.cat [(.q 22)]),(.x 34 [2]),(.x 40 [0,0]),(.x 40 [0,1]),(.x 40 [0,2]),(.x 40 [0,3]),(.x 40 [0,4]),(.x 40 [0,5]),(.x 40 [0,6]),(.x 40 [0,7]),(.x 40 [0,8]),(.x 40 [0,9]),(.x 34 [14]),(.x 34 [15]),(.x 34 [16]),(.x 34 [17])] .any
(.df (.mset 56 1 false) [(.cat [(.q 23)]),(.a [(.x 34 [2]),(.x 34 [3])]),(.k (.bool true))] .any
(.df (.bin .add 3) [(.q 20),(.i 1)] .one
(.again 1 [(.q 56),(.cat [(.q 38)]),(.q 54),(.q 55)]))))
(.ret (.k (.bool false)) [] [])))))))))))))))))))))
(.ret (.k (.bool false)) [] [])))))))))))))))))))))
(.df (.rbnd 19) [(.cat [(.q 21)]),(.i 0)] .one
(.df (.relems 19 0 19) [(.cat [(.q 21)]),(.i 0)] (.ag 19)
(.df (.rcut false 19) [(.cat [(.q 21)]),(.i 0)] .one
(.df (.rcut true 19) [(.cat [(.q 21)]),(.i 1)] .one
(.df (.rdel 19) [(.cat [(.q 21)]),(.i 0),(.i 1)] .any
(.df (.mlk false 56 1 false (.bool false)) [(.cat [(.q 23)]),(.a [(.x 29 [2]),(.x 29 [3])])] .one
(.br 33 []
(.ret (.k (.bool false)) [] [])
(.df (.mlk true 3 14 true (.agg #[(.int .i64 0),(.int .i64 0),(.int .i64 0),(.int .i64 0),(.int .i64 0),(.int .i64 0),(.int .i64 0),(.int .i64 0),(.int .i64 0),(.int .i64 0),(.int .i64 0),(.int .i64 0),(.int .i64 0),(.int .i64 0)])) [(.cat [(.q 22)]),(.x 29 [2])] (.tp [(.ag 14),.one])
(.df (.bin .eql 3) [(.x 29 [1]),(.i 2)] .one
(.br 35 []
(.br 34 [1]
(.ret (.k (.bool false)) [] [])
(.df (.bin .neq 3) [(.x 29 [4]),(.x 29 [2])] .one
(.br 36 []
(.ret (.k (.bool false)) [] [])
(.df (.mset 3 14 true) [(.cat [(.q 22)]),(.x 29 [2]),(.x 29 [4]),(.x 29 [5]),(.x 29 [6]),(.x 29 [7]),(.x 29 [8]),(.x 29 [9]),(.x 29 [10]),(.x 29 [11]),(.x 29 [12]),(.x 29 [13]),(.x 29 [14]),(.x 29 [15]),(.x 29 [16]),(.x 29 [17])] .any
(.df (.mset 56 1 false) [(.cat [(.q 23)]),(.a [(.x 29 [2]),(.x 29 [3])]),(.k (.bool true))] .any
(.df (.bin .add 3) [(.q 20),(.i 1)] .one
(.again 1 [(.q 39),(.cat [(.q 32)]),(.q 37),(.q 38)])))))))
(.df (.bin .eql 3) [(.x 29 [1]),(.i 3)] .one
(.br 36 []
(.df .not [(.x 34 [1])] .one
(.br 37 []
(.ret (.k (.bool false)) [] [])
(.df (.mdel 3 14) [(.cat [(.q 22)]),(.x 29 [2])] .any
(.df (.mset 56 1 false) [(.cat [(.q 23)]),(.a [(.x 29 [2]),(.x 29 [3])]),(.k (.bool true))] .any
(.df (.bin .add 3) [(.q 20),(.i 1)] .one
(.again 1 [(.q 40),(.cat [(.q 32)]),(.q 38),(.q 39)]))))))
(.df (.bin .eql 3) [(.x 29 [1]),(.i 1)] .one
(.br 37 []
(.df .not [(.x 34 [1])] .one
(.br 38 []
(.ret (.k (.bool false)) [] [])
(.df (.bin .eql 3) [(.x 29 [3]),(.i 1)] .one
(.br 39 []
(.df (.mset 3 14 true) [(.cat [(.q 22)]),(.x 29 [2]),(.x 34 [0,0]),(.x 29 [5]),(.x 34 [0,2]),(.x 34 [0,3]),(.x 34 [0,4]),(.x 34 [0,5]),(.x 34 [0,6]),(.x 34 [0,7]),(.x 34 [0,8]),(.x 34 [0,9]),(.x 34 [0,10]),(.x 34 [0,11]),(.x 34 [0,12]),(.x 34 [0,13])] .any
(.df (.mset 56 1 false) [(.cat [(.q 23)]),(.a [(.x 29 [2]),(.x 29 [3])]),(.k (.bool true))] .any
(.df (.bin .add 3) [(.q 20),(.i 1)] .one
(.again 1 [(.q 42),(.cat [(.q 32)]),(.q 40),(.q 41)]))))
(.df (.bin .eql 3) [(.x 29 [3]),(.i 2)] .one
(.br 40 []
(.df (.mset 3 14 true) [(.cat [(.q 22)]),(.x 29 [2]),(.x 34 [0,0]),(.x 34 [0,1]),(.x 29 [6]),(.x 34 [0,3]),(.x 34 [0,4]),(.x 34 [0,5]),(.x 34 [0,6]),(.x 34 [0,7]),(.x 34 [0,8]),(.x 34 [0,9]),(.x 34 [0,10]),(.x 34 [0,11]),(.x 34 [0,12]),(.x 34 [0,13])] .any
(.df (.mset 56 1 false) [(.cat [(.q 23)]),(.a [(.x 29 [2]),(.x 29 [3])]),(.k (.bool true))] .any
(.df (.bin .add 3) [(.q 20),(.i 1)] .one
(.again 1 [(.q 43),(.cat [(.q 32)]),(.q 41),(.q 42)]))))
(.df (.bin .eql 3) [(.x 29 [3]),(.i 3)] .one
(.br 41 []
(.df (.mset 3 14 true) [(.cat [(.q 22)]),(.x 29 [2]),(.x 34 [0,0]),(.x 34 [0,1]),(.x 34 [0,2]),(.x 29 [7]),(.x 34 [0,4]),(.x 34 [0,5]),(.x 34 [0,6]),(.x 34 [0,7]),(.x 34 [0,8]),(.x 34 [0,9]),(.x 34 [0,10]),(.x 34 [0,11]),(.x 34 [0,12]),(.x 34 [0,13])] .any
(.df (.mset 56 1 false) [(.cat [(.q 23)]),(.a [(.x 29 [2]),(.x 29 [3])]),(.k (.bool true))] .any
(.df (.bin .add 3) [(.q 20),(.i 1)] .one
(.again 1 [(.q 44),(.cat [(.q 32)]),(.q 42),(.q 43)]))))
(.df (.bin .eql 3) [(.x 29 [3]),(.i 4)] .one
(.br 42 []
(.df (.mset 3 14 true) [(.cat [(.q 22)]),(.x 29 [2]),(.x 34 [0,0]),(.x 34 [0,1]),(.x 34 [0,2]),(.x 34 [0,3]),(.x 34 [0,4]),(.x 29 [9]),(.x 34 [0,6]),(.x 34 [0,7]),(.x 34 [0,8]),(.x 34 [0,9]),(.x 34 [0,10]),(.x 34 [0,11]),(.x 34 [0,12]),(.x 34 [0,13])] .any
(.df (.mset 56 1 false) [(.cat [(.q 23)]),(.a [(.x 29 [2]),(.x 29 [3])]),(.k (.bool true))] .any
(.df (.bin .add 3) [(.q 20),(.i 1)] .one
(.again 1 [(.q 45),(.cat [(.q 32)]),(.q 43),(.q 44)]))))
(.df (.bin .eql 3) [(.x 29 [3]),(.i 5)] .one
(.br 43 []
(.df (.mset 3 14 true) [(.cat [(.q 22)]),(.x 29 [2]),(.x 34 [0,0]),(.x 34 [0,1]),(.x 34 [0,2]),(.x 34 [0,3]),(.x 34 [0,4]),(.x 34 [0,5]),(.x 29 [10]),(.x 34 [0,7]),(.x 34 [0,8]),(.x 34 [0,9]),(.x 34 [0,10]),(.x 34 [0,11]),(.x 34 [0,12]),(.x 34 [0,13])] .any
(.df (.mset 56 1 false) [(.cat [(.q 23)]),(.a [(.x 29 [2]),(.x 29 [3])]),(.k (.bool true))] .any
(.df (.bin .add 3) [(.q 20),(.i 1)] .one
(.again 1 [(.q 46),(.cat [(.q 32)]),(.q 44),(.q 45)]))))
(.df (.bin .eql 3) [(.x 29 [3]),(.i 6)] .one
(.br 44 []
(.df (.mset 3 14 true) [(.cat [(.q 22)]),(.x 29 [2]),(.x 34 [0,0]),(.x 34 [0,1]),(.x 34 [0,2]),(.x 34 [0,3]),(.x 34 [0,4]),(.x 34 [0,5]),(.x 34 [0,6]),(.x 29 [11]),(.x 34 [0,8]),(.x 34 [0,9]),(.x 34 [0,10]),(.x 34 [0,11]),(.x 34 [0,12]),(.x 34 [0,13])] .any
(.df (.mset 56 1 false) [(.cat [(.q 23)]),(.a [(.x 29 [2]),(.x 29 [3])]),(.k (.bool true))] .any
(.df (.bin .add 3) [(.q 20),(.i 1)] .one
(.again 1 [(.q 47),(.cat [(.q 32)]),(.q 45),(.q 46)]))))
(.df (.bin .eql 3) [(.x 29 [3]),(.i 7)] .one
(.br 45 []
(.df (.mset 3 14 true) [(.cat [(.q 22)]),(.x 29 [2]),(.x 34 [0,0]),(.x 34 [0,1]),(.x 34 [0,2]),(.x 34 [0,3]),(.x 34 [0,4]),(.x 34 [0,5]),(.x 34 [0,6]),(.x 34 [0,7]),(.x 29 [12]),(.x 34 [0,9]),(.x 34 [0,10]),(.x 34 [0,11]),(.x 34 [0,12]),(.x 34 [0,13])] .any
(.df (.mset 56 1 false) [(.cat [(.q 23)]),(.a [(.x 29 [2]),(.x 29 [3])]),(.k (.bool true))] .any
(.df (.bin .add 3) [(.q 20),(.i 1)] .one
(.again 1 [(.q 48),(.cat [(.q 32)]),(.q 46),(.q 47)]))))
(.df (.bin .eql 3) [(.x 29 [3]),(.i 8)] .one
(.br 46 []
(.df (.mset 3 14 true) [(.cat [(.q 22)]),(.x 29 [2]),(.x 34 [0,0]),(.x 34 [0,1]),(.x 34 [0,2]),(.x 34 [0,3]),(.x 34 [0,4]),(.x 34 [0,5]),(.x 34 [0,6]),(.x 34 [0,7]),(.x 34 [0,8]),(.x 29 [13]),(.x 34 [0,10]),(.x 34 [0,11]),(.x 34 [0,12]),(.x 34 [0,13])] .any
(.df (.mset 56 1 false) [(.cat [(.q 23)]),(.a [(.x 29 [2]),(.x 29 [3])]),(.k (.bool true))] .any
(.df (.bin .add 3) [(.q 20),(.i 1)] .one
(.again 1 [(.q 49),(.cat [(.q 32)]),(.q 47),(.q 48)]))))
(.df (.bin .eql 3) [(.x 29 [3]),(.i 9)] .one
(.br 47 []
(.df (.mset 3 14 true) [(.cat [(.q 22)]),(.x 29 [2]),(.x 34 [0,0]),(.x 34 [0,1]),(.x 34 [0,2]),(.x 34 [0,3]),(.x 34 [0,4]),(.x 34 [0,5]),(.x 34 [0,6]),(.x 34 [0,7]),(.x 34 [0,8]),(.x 34 [0,9]),(.x 29 [14]),(.x 29 [15]),(.x 29 [16]),(.x 29 [17])] .any
(.df (.mset 56 1 false) [(.cat [(.q 23)]),(.a [(.x 29 [2]),(.x 29 [3])]),(.k (.bool true))] .any
(.df (.bin .add 3) [(.q 20),(.i 1)] .one
(.again 1 [(.q 50),(.cat [(.q 32)]),(.q 48),(.q 49)]))))
(.ret (.k (.bool false)) [] [])))))))))))))))))))))
(.ret (.k (.bool false)) [] []))))))))))))))))))
(.df (.len false) [(.q 1)] .one
(.loop [(.i 0)] [.one]
(.df (.bin .lss 3) [(.q 27),(.q 26)] .one
(.br 28 []
(.df .bnd [(.q 1),(.q 27)] .one
(.df (.elems 14 0 14) [(.q 1),(.q 27)] (.ag 14)
(.df (.mlk false 3 14 true (.agg #[(.int .i64 0),(.int .i64 0),(.int .i64 0),(.int .i64 0),(.int .i64 0),(.int .i64 0),(.int .i64 0),(.int .i64 0),(.int .i64 0),(.int .i64 0),(.int .i64 0),(.int .i64 0),(.int .i64 0),(.int .i64 0)])) [(.cat [(.q 22)]),(.x 30 [0])] (.ag 14)
(.df (.eqr true 14 [(.i .i64),(.i .i64),(.i .i64),(.i .i64),(.i .i64),(.i .i64),(.i .i64),(.i .i64),(.i .i64),(.i .i64),(.i .i64),(.i .i64),(.i .i64),(.i .i64)]) (SX.Y 31 0 14++SX.Y 30 0 14) .one
(.br 32 []
(.ret (.k (.bool false)) [] [])
(.df (.bin .add 3) [(.q 27),(.i 1)] .one
(.again 2 [(.q 33)])))))))
(.df (.mln 14) [(.cat [(.q 22)])] .one
(.df (.len false) [(.q 1)] .one
(.df (.bin .eql 3) [(.q 29),(.q 30)] .one
(.ret (.q 31) [] []))))))))))))))))))))))))))))))))))
def args_lediff:List SX.V:=[.x 0 [],.x 1 [],.x 2 []]
set_option maxRecDepth 100000 in
theorem run_lediff(nb:Nat)(K A:Value→Nat→List Value→Prop):(SX.run (cxX nb K A) ⟨fun f=>true,[⟨8,12,[(.s 58,.one),(.c 0 0,.any)]⟩,⟨8,19,[(.s 14,.one),(.s 13,.row 19 55),(.c 0 0,.any),(.c 3 0,.any)]⟩,⟨8,30,[(.s 121,.one)]⟩],0,100⟩ 100000 0 (SX.door 8 Try.f8 args_lediff [.one,.one,.one]) [.code (Try.f8.body.getD .skip),.top Try.f8]).strip=tree_lediff:=by kernel_rfl
set_option maxRecDepth 100000 in
set_option maxHeartbeats 4000000 in
theorem lediff_any(a:List Sg)(A:Option Addr)(n c:Nat)(b:List Sg)(B:Option Addr)(m d:Nat)(ts:List Nat)(E:Option Addr)(p q:Nat)(w:World)(hr:Rd w 14 A n (sgsL a))(hn:n≤9223372036854775807)(hc:n≤c)(hr2:Rd w 14 B m (sgsL b))(hn2:m≤9223372036854775807)(hc2:m≤d)(hr4:Rd w 1 E p (tsL ts))(hn4:p≤9223372036854775807)(hc4:p≤q)(hts:∀ t∈ts,t≤65535):Calls Try.prog 8 #[.slice A n c,.slice B m d,.slice E p q] w fun e w'=>e=.returned (.bool true)∧Below w.heap.size w w':=by
 refine SX.calls_of_run (C:=cxX w.heap.size (KX A n c a B m d b E p q ts) (KX A n c a B m d b E p q ts)) (G:=⟨fun f=>true,[⟨8,12,[(.s 58,.one),(.c 0 0,.any)]⟩,⟨8,19,[(.s 14,.one),(.s 13,.row 19 55),(.c 0 0,.any),(.c 3 0,.any)]⟩,⟨8,30,[(.s 121,.one)]⟩],0,100⟩) (args:=args_lediff) (sh:=[.one,.one,.one]) (ρ:=[.slice A n c,.slice B m d,.slice E p q]) 100000 tree_lediff (okX w.heap.size _ _) Try.func8 rfl (run_lediff _ _ _) (by kernel_rfl) (by kernel_rfl) (by kernel_rfl) ?_ ?_ (hN:=⟨rfl,Nat.le_refl _⟩)
 ·rintro W hW s sz cells (⟨rfl,rfl,rfl⟩|⟨rfl,rfl,rfl⟩|⟨rfl,rfl,rfl⟩)
  ·exact⟨hr.same0 hW,hc⟩
  ·exact⟨hr2.same0 hW,hc2⟩
  exact⟨hr4.same0 hW,hc4⟩
 have hA:=SX.rd_some hr
 have hln:a.length=n:=by have:=hr.1;rw [sgsL_len]at this;omega
 have hB:=SX.rd_some hr2
 have hlm:b.length=m:=by have:=hr2.1;rw [sgsL_len]at this;omega
 have hE:=SX.rd_some hr4
 have hlp:ts.length=p:=by have:=hr4.1;rw [tsL_len]at this;omega
 unfold tree_lediff
 refine SX.E (.bool true) (fun α=>⟨[],trivial,.inl ⟨rfl,rfl,rfl⟩,SX.noAli rfl⟩) ?_
 refine SX.D (.bool (!(true))) ?_
 refine SX.B (!(true)) (fun h4=>absurd h4 (by decide)) (fun h4=>?_)
 try simp only [NRM]at h4
 refine SX.E (.bool (decide (a.length≤200∧okL a))) (fun α=>⟨[⟨(.slice A n c),14,sgsL a⟩],⟨by kernel_rfl,by kernel_rfl,K_ofD (y:=⟨(.slice A n c),14,sgsL a⟩) (by kernel_rfl) (.inl ⟨rfl,rfl,rfl⟩),trivial⟩,.inr (.inl ⟨rfl,_,a,rfl,by omega,rfl⟩),SX.noAli rfl⟩) ?_
 refine SX.D (.bool (!(decide (a.length≤200∧okL a)))) ?_
 refine SX.B (!(decide (a.length≤200∧okL a))) (fun h6=>?_) (fun h6=>?_)
 ·try simp only [NRM]at h6
  exact SX.VC_ret fun α W _ _ hS=>SX.ret_of hS (x:=.bool true) (by kernel_rfl) rfl
 try simp only [NRM]at h6
 refine SX.E (.bool (decide (b.length≤200∧okL b))) (fun α=>⟨[⟨(.slice B m d),14,sgsL b⟩],⟨by kernel_rfl,by kernel_rfl,K_ofD (y:=⟨(.slice B m d),14,sgsL b⟩) (by kernel_rfl) (.inr (.inl ⟨rfl,rfl,rfl⟩)),trivial⟩,.inr (.inl ⟨rfl,_,b,rfl,by omega,rfl⟩),SX.noAli rfl⟩) ?_
 refine SX.D (.bool (!(decide (b.length≤200∧okL b)))) ?_
 refine SX.B (!(decide (b.length≤200∧okL b))) (fun h8=>?_) (fun h8=>?_)
 ·try simp only [NRM]at h8
  exact SX.VC_ret fun α W _ _ hS=>SX.ret_of hS (x:=.bool true) (by kernel_rfl) rfl
 try simp only [NRM]at h8
 refine SX.VC_dn (fun v N=>∃ A1 n1 c1 hs1,n1=(diffR a b 1 []).1.length∧List.length (α:=Hd) hs1=n1∧v=.tuple #[.slice A1 n1 c1,.int .i64 (diffR a b 1 []).2]∧N=(LN (diffR a b 1 []).1 [] A1 n1 c1 hs1)) (fun _=>rfl) (fun α=>⟨[⟨.slice A n c,14,sgsL a⟩,⟨.slice B m d,14,sgsL b⟩,⟨.int .i64 1,0,[]⟩,⟨.slice none 0 0,1,intsL []⟩],⟨by kernel_rfl,by kernel_rfl,K_ofD (y:=⟨.slice A n c,14,sgsL a⟩) (by kernel_rfl) (.inl ⟨rfl,rfl,rfl⟩),by kernel_rfl,by kernel_rfl,K_ofD (y:=⟨.slice B m d,14,sgsL b⟩) (by kernel_rfl) (.inr (.inl ⟨rfl,rfl,rfl⟩)),by kernel_rfl,by kernel_rfl,by kernel_rfl,trivial⟩,rfl,_,_,_,a,b,1,[],rfl,by omega,by omega,by simp,fun A1 n1 c1 hs1 g1 g2=>⟨A1,n1,c1,hs1,g1,g2,rfl,rfl⟩⟩) ?_
 rintro _ _-⟨A1,n1,c1,hs1,q1,z1,rfl,rfl⟩
 have hzf:(((diffR a b 1 []).1.zip hs1:List Ph)).map (·.1)=(diffR a b 1 []).1:=zip_fst (by omega)
 refine SX.D (.bool (((diffR a b 1 []).2:Int) != 0)) ?_
 refine SX.B (((diffR a b 1 []).2:Int) != 0) (fun h10=>?_) (fun h10=>?_)
 ·try simp only [NRM]at h10
  refine SX.D (.int .i64 (((n1:Nat):Int))) ?_
  refine SX.D (.bool ((((n1:Nat):Int):Int) == 0)) ?_
  refine SX.B ((((n1:Nat):Int):Int) == 0) (fun h12=>?_) (fun h12=>?_)
  ·try simp only [NRM]at h12
   refine SX.D (.bool (((diffR a b 1 []).2:Int) == 360)) ?_
   refine SX.B (((diffR a b 1 []).2:Int) == 360) (fun h13=>?_) (fun h13=>?_)
   ·try simp only [NRM]at h13
    exact SX.VC_ret fun α W _ _ hS=>SX.ret_of hS (x:=.bool true) (by kernel_rfl) rfl
   try simp only [NRM]at h13
   refine SX.D (.bool (((diffR a b 1 []).2:Int) == 2)) ?_
   have hq:(((diffR a b 1 []).2:Int) == 2)=true:=by rcases diffR_err (a:=a) (b:=b) (first:=1) (needs:=[])with q2|⟨q2|q2,-⟩<;>simp_all
   exact SX.F (.bool (((diffR a b 1 []).2:Int) == 2)) (by rw [hq])
  try simp only [NRM]at h12
  exfalso;rcases diffR_err (a:=a) (b:=b) (first:=1) (needs:=[])with q2|⟨-,q2⟩
  ·simp_all
  rw [q2]at q1;simp at q1;simp_all
 try simp only [NRM]at h10
 refine SX.D (.int .i64 (((n1:Nat):Int))) ?_
 refine SX.D (.bool ((((n1:Nat):Int):Int) == 0)) ?_
 refine SX.E (.bool (decide (a=b))) (fun α=>⟨[⟨.slice A n c,14,sgsL a⟩,⟨.slice B m d,14,sgsL b⟩],⟨by kernel_rfl,by kernel_rfl,K_ofD (y:=⟨.slice A n c,14,sgsL a⟩) (by kernel_rfl) (.inl (.inl ⟨rfl,rfl,rfl⟩)),by kernel_rfl,by kernel_rfl,K_ofD (y:=⟨.slice B m d,14,sgsL b⟩) (by kernel_rfl) (.inl (.inr (.inl ⟨rfl,rfl,rfl⟩))),trivial⟩,.inr (.inr (⟨rfl,_,_,a,b,rfl,by omega,by omega,rfl⟩)),SX.noAli rfl⟩) ?_
 refine SX.D (.bool (!(((((n1:Nat):Int):Int) == 0) == (decide (a=b))))) ?_
 refine SX.B (!(((((n1:Nat):Int):Int) == 0) == (decide (a=b)))) (fun h14=>?_) (fun h14=>?_)
 ·try simp only [NRM]at h14
  exfalso;have q2:=diff_nil (a:=a) (b:=b) (first:=1) (needs:=[]) (by simpa using h10)
  rw [← List.length_eq_zero_iff,← q1]at q2
  by_cases q3:a=b
  ·have q4:=q2.2 q3;simp [q3,q4]at h14
  have q4:n1≠0:=fun h=>q3 (q2.1 h)
  simp [q3,q4]at h14
 try simp only [NRM]at h14
 refine SX.D (.int .i64 (((n:Nat):Int))) ?_
 have herr:(diffR a b 1 []).2=0:=by simpa using h10
 obtain⟨oa,ob,-⟩:=diff_some herr
 refine SX.VC_loop (fun xs=>∃ (i nx:Nat) (l:List Qe),xs=[.int .i64 (i:Int),.agg (qCells nx l).toArray]∧i≤n∧FMap keyI cellsSg l (findO (a.take i))∧∀ e∈l,MapKept.IsKey (.int .i64) e.key) (fun xs=>match xs with|.int _ i::_=>n-i.toNat|_=>0) (fun α=>⟨0,0,[],by kernel_rfl,by omega,FMap.zero,fun e he=>nomatch he⟩) ?_
 rintro xs-⟨i,nx,l,rfl,hin,hM,hMk⟩
 refine SX.D (.bool (decide (((i:Nat):Int)<((n:Nat):Int)))) ?_
 refine SX.B (decide (((i:Nat):Int)<((n:Nat):Int))) (fun h18=>?_) (fun h18=>?_)
 ·try simp only [NRM]at h18
  obtain⟨z,hz⟩:∃ z,a[i]?=some z:=⟨_,List.getElem?_eq_getElem (by omega)⟩
  refine SX.E (.bool true) (fun α=>SX.extBnd (A:=A) (n:=n) (c:=c) (j:=i) hA (by kernel_rfl) (by kernel_rfl) (by omega)) ?_
  refine SX.E (.agg (cellsSg z).toArray) (fun α=>SX.extElems (f:=cellsSg) (l:=a) (A:=A) (n:=n) (c:=c) (j:=i) (z:=z) (fun _=>rfl) hA (by kernel_rfl) (by kernel_rfl) (by omega) (.inl (.inl ⟨rfl,rfl,rfl⟩)) hz) ?_
  obtain⟨nx2,l2,hput,hM2⟩:=hM.put keyI_inj nx z.id z
  refine SX.VC_df (.agg (qCells nx2 l2).toArray) (fun α=>SX.mset_rel hM (fun _=>rfl) kd_int hMk rfl (SX.cat1 (by kernel_rfl)) (by kernel_rfl) (by kernel_rfl) hput) (rfl) ?_
  refine SX.E (.int .i64 (((i+1:Nat):Int))) (fun α=>SX.W1 i) ?_
  exact SX.VC_again fun α=>⟨⟨i+1,nx2,l2,by kernel_rfl,by omega,by rw [find_snoc oa hz];exact hM2,hput.keys hMk rfl⟩,cast (by kernel_rfl) (show n-((i+1:Nat):Int).toNat<n-(i:Int).toNat by omega)⟩
 try simp only [NRM]at h18
 refine SX.VC_df (.agg (((diffR a b 1 []).1.zip hs1).flatMap cellsH).toArray) (fun α=>SX.app_rel (f:=cellsH) (l1:=[]) (l2:=(diffR a b 1 []).1.zip hs1) (fun _=>rfl) cellsH_one (by decide) (by kernel_rfl) (SX.src_ext (K_ofD (y:=⟨.slice A1 n1 c1,19,phL ((diffR a b 1 []).1.zip hs1)⟩) (by kernel_rfl) (.inr (List.mem_append_left _ (List.mem_cons_self ..))))) (by have:=diffR_len (a:=a) (b:=b) (first:=1) (needs:=[]);simp only [List.length_zip,Nat.zero_add,List.length_nil];omega) (by have:=diffR_len (a:=a) (b:=b) (first:=1) (needs:=[]);simp only [List.length_zip,Nat.zero_add,List.length_nil];omega)) (rfl) ?_
 have hin':i=a.length:=by omega
 rw [hin',List.take_length]at hM
 refine SX.VC_loop (fun xs=>∃ (k:Nat) (L:List Ph) (nx1:Nat) (l1:List Qe) (ny:Nat) (t1:List Qe) (M:Int→Option Sg) (G:Int×Int→Option Unit),xs=[.int .i64 (k:Int),.agg (phL L).toArray,.agg (qCells nx1 l1).toArray,.agg (qCells ny t1).toArray]∧J2 b k L l1 t1 M G) (fun xs=>match xs with|[_,.agg c,_,_]=>c.size|_=>0) (fun α=>⟨0,(diffR a b 1 []).1.zip hs1,nx,l,0,[],findO a,fun _=>none,Eq.trans (b:=[.int .i64 ((0:Nat):Int),.agg ([Value.agg (phL ((diffR a b 1 []).1.zip hs1)).toArray].flatMap SX.cellsV).toArray,.agg (qCells nx l).toArray,.agg (qCells 0 []).toArray]) (by kernel_rfl) (by simp [SX.cellsV]),⟨by have:=diffR_len (a:=a) (b:=b) (first:=1) (needs:=[]);rw [List.length_zip];omega,hM,hMk,FMap.zero,(fun e he=>nomatch he),by rw [hzf];exact left_zero herr,by rw [hzf];exact⟨diff_pairs herr,fun _ _=>rfl⟩,by rw [hzf];exact diff_bnd herr⟩⟩) ?_
 rintro xs-⟨k,L,nx1,l1,ny,t1,M,G,rfl,hJ⟩
 have hlen:=hJ.len
 refine SX.E (.int .i64 ((((L).length:Nat):Int))) (fun α=>SX.rlenD (f:=cellsH) (l:=L) (fun _=>rfl) (by decide) (SX.cat1 (by kernel_rfl))) ?_
 refine SX.D (.bool (decide ((((L).length:Nat):Int)>0))) ?_
 refine SX.B (decide ((((L).length:Nat):Int)>0)) (fun h25=>?_) (fun h25=>?_)
 ·try simp only [NRM]at h25
  refine SX.D (.int .i64 (((p:Nat):Int))) ?_
  refine SX.D (.bool (decide (((k:Nat):Int)<((p:Nat):Int)))) ?_
  refine SX.B (decide (((k:Nat):Int)<((p:Nat):Int))) (fun h27=>?_) (fun h27=>?_)
  ·try simp only [NRM]at h27
   obtain⟨tt,htt⟩:∃ tt,ts[k]?=some tt:=⟨_,List.getElem?_eq_getElem (by omega)⟩
   have htt5:=hts tt (List.mem_of_getElem? htt)
   refine SX.E (.bool true) (fun α=>SX.extBnd (A:=E) (n:=p) (c:=q) (j:=k) hE (by kernel_rfl) (by kernel_rfl) (by omega)) ?_
   refine SX.E (.int .u16 ((tt:Int))) (fun α=>SX.extElem (o:=0) (v:=.int .u16 ((tt:Int))) (f:=c16) (l:=ts) (A:=E) (n:=p) (c:=q) (j:=k) (z:=tt) (fun _=>rfl) hE (by kernel_rfl) (by kernel_rfl) (by omega) (.inl (.inr (.inr ⟨rfl,rfl,rfl⟩))) htt (by decide) (by kernel_rfl)) ?_
   refine SX.E (.int .i64 ((tt:Int))) (fun α=>SX.W ((tt:Int))) ?_
   refine SX.E (.int .i64 ((((L).length:Nat):Int))) (fun α=>SX.rlenD (f:=cellsH) (l:=L) (fun _=>rfl) (by decide) (SX.cat1 (by kernel_rfl))) ?_
   obtain⟨kk,hkk⟩:∃ kk,kk=tt % L.length:=⟨_,rfl⟩
   have hkn:kk<L.length:=by rw [hkk];exact Nat.mod_lt _ (by omega)
   refine SX.E (.int .i64 (((kk:Nat):Int))) (fun α=>Eq.trans (b:=SX.binV .rem (.int .i64 (tt:Int)) (.int .i64 ((L.length:Nat):Int))) (by kernel_rfl) (by rw [hkk];exact SX.rem_nat (by omega))) ?_
   obtain⟨x,hx⟩:∃ x,L[kk]?=some x:=⟨_,List.getElem?_eq_getElem (by omega)⟩
   obtain⟨hpre,hnew,hbd⟩:=hJ.at hx
   obtain⟨y,ib,hib1,hib0⟩:=look_of (M x.1.sign)
   obtain⟨g1,g2,g3,g4,g5,g6⟩:=do_no hpre hib1 hib0
   obtain⟨ny2,t2,hputG,hG2⟩:=hJ.g.put keyPr_inj ny (pairP x.1) ()
   refine SX.E (.bool true) (fun α=>SX.row_bnd (f:=cellsH) (l:=L) (k:=kk) (fun _=>rfl) (by decide) (SX.cat1 (by kernel_rfl)) (by kernel_rfl) (List.getElem?_eq_some_iff.1 hx).1) ?_
   refine SX.E (.agg (cellsH x).toArray) (fun α=>SX.row_elems (f:=cellsH) (l:=L) (k:=kk) (z:=x) (fun _=>rfl) (by decide) (SX.cat1 (by kernel_rfl)) (by kernel_rfl) hx) ?_
   refine SX.E (.bool true) (fun α=>SX.rcut_rel (g:=cellsH) (L:=L) (k:=kk) (fun _=>rfl) (SX.cat1 (by kernel_rfl)) (by kernel_rfl) (by have:=(List.getElem?_eq_some_iff.1 hx).1;omega)) ?_
   refine SX.E (.int .i64 (((kk+1:Nat):Int))) (fun α=>SX.W1 kk) ?_
   refine SX.E (.bool true) (fun α=>SX.rcut_rel (g:=cellsH) (L:=L) (k:=kk+1) (fun _=>rfl) (SX.cat1 (by kernel_rfl)) (by kernel_rfl) (by have:=(List.getElem?_eq_some_iff.1 hx).1;omega)) ?_
   refine SX.VC_df (.agg ((L.take kk++L.drop (kk+1)).flatMap cellsH).toArray) (fun α=>SX.rdel_rel (g:=cellsH) (L:=L) (k:=kk) (fun _=>rfl) cellsH_one (SX.cat1 (by kernel_rfl)) (by kernel_rfl) (by kernel_rfl) (List.getElem?_eq_some_iff.1 hx).1) (rfl) ?_
   refine SX.E (.bool false) (fun α=>SX.mlk_rel (nx:=ny) hJ.g keyPr_inj (fun _=>rfl) kd_pr hJ.gk hbd.key (SX.cat1 (by kernel_rfl)) (by kernel_rfl) (by rw [hnew];rfl)) ?_
   refine SX.B false (fun h39=>absurd h39 (by decide)) (fun h39=>?_)
   try simp only [NRM]at h39
   refine SX.E (.tuple #[valSg y,.bool ib]) (fun α=>SX.mlk_rel (nx:=nx1) (i:=x.1.sign) hJ.m keyI_inj (fun _=>rfl) kd_int hJ.ks rfl (SX.cat1 (by kernel_rfl)) (by kernel_rfl) (by cases ib with|true=>rw [hib1 rfl];rfl|false=>rw [(hib0 rfl).1,(hib0 rfl).2];rfl)) ?_
   refine SX.D (.bool ((x.1.kind:Int) == 2)) ?_
   refine SX.B ((x.1.kind:Int) == 2) (fun h41=>?_) (fun h41=>?_)
   ·try simp only [NRM]at h41
    refine SX.B ib (fun h40_1=>?_) (fun h40_1=>?_)
    ·try simp only [NRM]at h40_1
     exfalso;first|omega|exact bno (by assumption) (g1 (by omega))|exact bno (g4 (by omega)) (by assumption)|exact bno (g3 (by omega)) (by assumption)
    try simp only [NRM]at h40_1
    refine SX.D (.bool ((x.1.new.id:Int) != x.1.sign)) ?_
    refine SX.B ((x.1.new.id:Int) != x.1.sign) (fun h42=>?_) (fun h42=>?_)
    ·try simp only [NRM]at h42
     exfalso;first|omega|exact bno (by assumption) (g1 (by omega))|exact bno (g4 (by omega)) (by assumption)|exact bno (g3 (by omega)) (by assumption)
    try simp only [NRM]at h42
    obtain⟨nx2,l2,hput,hM2⟩:=hJ.m.put keyI_inj nx1 x.1.sign x.1.new
    have hk2:=hput.keys hJ.ks rfl
    refine SX.VC_df (.agg (qCells nx2 l2).toArray) (fun α=>msI hJ hput) (rfl) ?_
    refine SX.VC_df (.agg (qCells ny2 t2).toArray) (fun α=>msP hJ hbd hputG) (rfl) ?_
    refine SX.E (.int .i64 (((k+1:Nat):Int))) (fun α=>SX.W1 k) ?_
    exact SX.VC_again fun α=>⟨⟨k+1,L.take kk++L.drop (kk+1),nx2,l2,ny2,t2,_,_,agE,hJ.go hx hM2 (upd_ins (by omega)) hk2 hputG hG2⟩,cast (by kernel_rfl) (out_lt hx)⟩
   try simp only [NRM]at h41
   refine SX.D (.bool ((x.1.kind:Int) == 3)) ?_
   refine SX.B ((x.1.kind:Int) == 3) (fun h42=>?_) (fun h42=>?_)
   ·try simp only [NRM]at h42
    refine SX.D (.bool (!(ib))) ?_
    refine SX.B (!(ib)) (fun h43=>?_) (fun h43=>?_)
    ·try simp only [NRM]at h43
     exfalso;first|omega|exact bno (by assumption) (g1 (by omega))|exact bno (g4 (by omega)) (by assumption)|exact bno (g3 (by omega)) (by assumption)
    try simp only [NRM]at h43
    obtain⟨l2,hput,hM2⟩:=hJ.m.del keyI_inj x.1.sign
    have hk2:=hput.keys hJ.ks
    refine SX.VC_df (.agg (qCells nx1 l2).toArray) (fun α=>SX.mdel_rel hJ.m (fun _=>rfl) kd_int hJ.ks rfl (SX.cat1 (by kernel_rfl)) (by kernel_rfl) hput) (rfl) ?_
    refine SX.VC_df (.agg (qCells ny2 t2).toArray) (fun α=>msP hJ hbd hputG) (rfl) ?_
    refine SX.E (.int .i64 (((k+1:Nat):Int))) (fun α=>SX.W1 k) ?_
    exact SX.VC_again fun α=>⟨⟨k+1,L.take kk++L.drop (kk+1),nx1,l2,ny2,t2,_,_,agE,hJ.go hx hM2 (upd_rem (by omega)) hk2 hputG hG2⟩,cast (by kernel_rfl) (out_lt hx)⟩
   try simp only [NRM]at h42
   refine SX.D (.bool ((x.1.kind:Int) == 1)) ?_
   refine SX.B ((x.1.kind:Int) == 1) (fun h43=>?_) (fun h43=>?_)
   ·try simp only [NRM]at h43
    refine SX.D (.bool (!(ib))) ?_
    refine SX.B (!(ib)) (fun h44=>?_) (fun h44=>?_)
    ·try simp only [NRM]at h44
     exfalso;first|omega|exact bno (by assumption) (g1 (by omega))|exact bno (g4 (by omega)) (by assumption)|exact bno (g3 (by omega)) (by assumption)
    try simp only [NRM]at h44
    refine SX.D (.bool ((x.1.field:Int) == 1)) ?_
    refine SX.B ((x.1.field:Int) == 1) (fun h45=>?_) (fun h45=>?_)
    ·try simp only [NRM]at h45
     obtain⟨nx2,l2,hput,hM2⟩:=hJ.m.put keyI_inj nx1 x.1.sign (setF y 1 x.1.new)
     have hk2:=hput.keys hJ.ks rfl
     refine SX.VC_df (.agg (qCells nx2 l2).toArray) (fun α=>msI hJ hput) (rfl) ?_
     refine SX.VC_df (.agg (qCells ny2 t2).toArray) (fun α=>msP hJ hbd hputG) (rfl) ?_
     refine SX.E (.int .i64 (((k+1:Nat):Int))) (fun α=>SX.W1 k) ?_
     exact SX.VC_again fun α=>⟨⟨k+1,L.take kk++L.drop (kk+1),nx2,l2,ny2,t2,_,_,agE,hJ.go hx hM2 (upd_set (by omega) (by omega) (hib1 (by simpa using h44))) hk2 hputG hG2⟩,cast (by kernel_rfl) (out_lt hx)⟩
    try simp only [NRM]at h45
    refine SX.D (.bool ((x.1.field:Int) == 2)) ?_
    refine SX.B ((x.1.field:Int) == 2) (fun h46=>?_) (fun h46=>?_)
    ·try simp only [NRM]at h46
     obtain⟨nx2,l2,hput,hM2⟩:=hJ.m.put keyI_inj nx1 x.1.sign (setF y 2 x.1.new)
     have hk2:=hput.keys hJ.ks rfl
     refine SX.VC_df (.agg (qCells nx2 l2).toArray) (fun α=>msI hJ hput) (rfl) ?_
     refine SX.VC_df (.agg (qCells ny2 t2).toArray) (fun α=>msP hJ hbd hputG) (rfl) ?_
     refine SX.E (.int .i64 (((k+1:Nat):Int))) (fun α=>SX.W1 k) ?_
     exact SX.VC_again fun α=>⟨⟨k+1,L.take kk++L.drop (kk+1),nx2,l2,ny2,t2,_,_,agE,hJ.go hx hM2 (upd_set (by omega) (by omega) (hib1 (by simpa using h44))) hk2 hputG hG2⟩,cast (by kernel_rfl) (out_lt hx)⟩
    try simp only [NRM]at h46
    refine SX.D (.bool ((x.1.field:Int) == 3)) ?_
    refine SX.B ((x.1.field:Int) == 3) (fun h47=>?_) (fun h47=>?_)
    ·try simp only [NRM]at h47
     obtain⟨nx2,l2,hput,hM2⟩:=hJ.m.put keyI_inj nx1 x.1.sign (setF y 3 x.1.new)
     have hk2:=hput.keys hJ.ks rfl
     refine SX.VC_df (.agg (qCells nx2 l2).toArray) (fun α=>msI hJ hput) (rfl) ?_
     refine SX.VC_df (.agg (qCells ny2 t2).toArray) (fun α=>msP hJ hbd hputG) (rfl) ?_
     refine SX.E (.int .i64 (((k+1:Nat):Int))) (fun α=>SX.W1 k) ?_
     exact SX.VC_again fun α=>⟨⟨k+1,L.take kk++L.drop (kk+1),nx2,l2,ny2,t2,_,_,agE,hJ.go hx hM2 (upd_set (by omega) (by omega) (hib1 (by simpa using h44))) hk2 hputG hG2⟩,cast (by kernel_rfl) (out_lt hx)⟩
    try simp only [NRM]at h47
    refine SX.D (.bool ((x.1.field:Int) == 4)) ?_
    refine SX.B ((x.1.field:Int) == 4) (fun h48=>?_) (fun h48=>?_)
    ·try simp only [NRM]at h48
     obtain⟨nx2,l2,hput,hM2⟩:=hJ.m.put keyI_inj nx1 x.1.sign (setF y 4 x.1.new)
     have hk2:=hput.keys hJ.ks rfl
     refine SX.VC_df (.agg (qCells nx2 l2).toArray) (fun α=>msI hJ hput) (rfl) ?_
     refine SX.VC_df (.agg (qCells ny2 t2).toArray) (fun α=>msP hJ hbd hputG) (rfl) ?_
     refine SX.E (.int .i64 (((k+1:Nat):Int))) (fun α=>SX.W1 k) ?_
     exact SX.VC_again fun α=>⟨⟨k+1,L.take kk++L.drop (kk+1),nx2,l2,ny2,t2,_,_,agE,hJ.go hx hM2 (upd_set (by omega) (by omega) (hib1 (by simpa using h44))) hk2 hputG hG2⟩,cast (by kernel_rfl) (out_lt hx)⟩
    try simp only [NRM]at h48
    refine SX.D (.bool ((x.1.field:Int) == 5)) ?_
    refine SX.B ((x.1.field:Int) == 5) (fun h49=>?_) (fun h49=>?_)
    ·try simp only [NRM]at h49
     obtain⟨nx2,l2,hput,hM2⟩:=hJ.m.put keyI_inj nx1 x.1.sign (setF y 5 x.1.new)
     have hk2:=hput.keys hJ.ks rfl
     refine SX.VC_df (.agg (qCells nx2 l2).toArray) (fun α=>msI hJ hput) (rfl) ?_
     refine SX.VC_df (.agg (qCells ny2 t2).toArray) (fun α=>msP hJ hbd hputG) (rfl) ?_
     refine SX.E (.int .i64 (((k+1:Nat):Int))) (fun α=>SX.W1 k) ?_
     exact SX.VC_again fun α=>⟨⟨k+1,L.take kk++L.drop (kk+1),nx2,l2,ny2,t2,_,_,agE,hJ.go hx hM2 (upd_set (by omega) (by omega) (hib1 (by simpa using h44))) hk2 hputG hG2⟩,cast (by kernel_rfl) (out_lt hx)⟩
    try simp only [NRM]at h49
    refine SX.D (.bool ((x.1.field:Int) == 6)) ?_
    refine SX.B ((x.1.field:Int) == 6) (fun h50=>?_) (fun h50=>?_)
    ·try simp only [NRM]at h50
     obtain⟨nx2,l2,hput,hM2⟩:=hJ.m.put keyI_inj nx1 x.1.sign (setF y 6 x.1.new)
     have hk2:=hput.keys hJ.ks rfl
     refine SX.VC_df (.agg (qCells nx2 l2).toArray) (fun α=>msI hJ hput) (rfl) ?_
     refine SX.VC_df (.agg (qCells ny2 t2).toArray) (fun α=>msP hJ hbd hputG) (rfl) ?_
     refine SX.E (.int .i64 (((k+1:Nat):Int))) (fun α=>SX.W1 k) ?_
     exact SX.VC_again fun α=>⟨⟨k+1,L.take kk++L.drop (kk+1),nx2,l2,ny2,t2,_,_,agE,hJ.go hx hM2 (upd_set (by omega) (by omega) (hib1 (by simpa using h44))) hk2 hputG hG2⟩,cast (by kernel_rfl) (out_lt hx)⟩
    try simp only [NRM]at h50
    refine SX.D (.bool ((x.1.field:Int) == 7)) ?_
    refine SX.B ((x.1.field:Int) == 7) (fun h51=>?_) (fun h51=>?_)
    ·try simp only [NRM]at h51
     obtain⟨nx2,l2,hput,hM2⟩:=hJ.m.put keyI_inj nx1 x.1.sign (setF y 7 x.1.new)
     have hk2:=hput.keys hJ.ks rfl
     refine SX.VC_df (.agg (qCells nx2 l2).toArray) (fun α=>msI hJ hput) (rfl) ?_
     refine SX.VC_df (.agg (qCells ny2 t2).toArray) (fun α=>msP hJ hbd hputG) (rfl) ?_
     refine SX.E (.int .i64 (((k+1:Nat):Int))) (fun α=>SX.W1 k) ?_
     exact SX.VC_again fun α=>⟨⟨k+1,L.take kk++L.drop (kk+1),nx2,l2,ny2,t2,_,_,agE,hJ.go hx hM2 (upd_set (by omega) (by omega) (hib1 (by simpa using h44))) hk2 hputG hG2⟩,cast (by kernel_rfl) (out_lt hx)⟩
    try simp only [NRM]at h51
    refine SX.D (.bool ((x.1.field:Int) == 8)) ?_
    refine SX.B ((x.1.field:Int) == 8) (fun h52=>?_) (fun h52=>?_)
    ·try simp only [NRM]at h52
     obtain⟨nx2,l2,hput,hM2⟩:=hJ.m.put keyI_inj nx1 x.1.sign (setF y 8 x.1.new)
     have hk2:=hput.keys hJ.ks rfl
     refine SX.VC_df (.agg (qCells nx2 l2).toArray) (fun α=>msI hJ hput) (rfl) ?_
     refine SX.VC_df (.agg (qCells ny2 t2).toArray) (fun α=>msP hJ hbd hputG) (rfl) ?_
     refine SX.E (.int .i64 (((k+1:Nat):Int))) (fun α=>SX.W1 k) ?_
     exact SX.VC_again fun α=>⟨⟨k+1,L.take kk++L.drop (kk+1),nx2,l2,ny2,t2,_,_,agE,hJ.go hx hM2 (upd_set (by omega) (by omega) (hib1 (by simpa using h44))) hk2 hputG hG2⟩,cast (by kernel_rfl) (out_lt hx)⟩
    try simp only [NRM]at h52
    refine SX.D (.bool ((x.1.field:Int) == 9)) ?_
    refine SX.B ((x.1.field:Int) == 9) (fun h53=>?_) (fun h53=>?_)
    ·try simp only [NRM]at h53
     obtain⟨nx2,l2,hput,hM2⟩:=hJ.m.put keyI_inj nx1 x.1.sign (setF y 9 x.1.new)
     have hk2:=hput.keys hJ.ks rfl
     refine SX.VC_df (.agg (qCells nx2 l2).toArray) (fun α=>msI hJ hput) (rfl) ?_
     refine SX.VC_df (.agg (qCells ny2 t2).toArray) (fun α=>msP hJ hbd hputG) (rfl) ?_
     refine SX.E (.int .i64 (((k+1:Nat):Int))) (fun α=>SX.W1 k) ?_
     exact SX.VC_again fun α=>⟨⟨k+1,L.take kk++L.drop (kk+1),nx2,l2,ny2,t2,_,_,agE,hJ.go hx hM2 (upd_set (by omega) (by omega) (hib1 (by simpa using h44))) hk2 hputG hG2⟩,cast (by kernel_rfl) (out_lt hx)⟩
    try simp only [NRM]at h53
    exfalso;first|omega|exact bno (by assumption) (g1 (by omega))|exact bno (g4 (by omega)) (by assumption)|exact bno (g3 (by omega)) (by assumption)
   try simp only [NRM]at h43
   exfalso;first|omega|exact bno (by assumption) (g1 (by omega))|exact bno (g4 (by omega)) (by assumption)|exact bno (g3 (by omega)) (by assumption)
  try simp only [NRM]at h27
  obtain⟨x,hx⟩:∃ x,L[0]?=some x:=⟨_,List.getElem?_eq_getElem (by omega)⟩
  obtain⟨hpre,hnew,hbd⟩:=hJ.at hx
  obtain⟨y,ib,hib1,hib0⟩:=look_of (M x.1.sign)
  obtain⟨g1,g2,g3,g4,g5,g6⟩:=do_no hpre hib1 hib0
  obtain⟨ny2,t2,hputG,hG2⟩:=hJ.g.put keyPr_inj ny (pairP x.1) ()
  refine SX.E (.bool true) (fun α=>SX.row_bnd (f:=cellsH) (l:=L) (k:=0) (fun _=>rfl) (by decide) (SX.cat1 (by kernel_rfl)) (by kernel_rfl) (List.getElem?_eq_some_iff.1 hx).1) ?_
  refine SX.E (.agg (cellsH x).toArray) (fun α=>SX.row_elems (f:=cellsH) (l:=L) (k:=0) (z:=x) (fun _=>rfl) (by decide) (SX.cat1 (by kernel_rfl)) (by kernel_rfl) hx) ?_
  refine SX.E (.bool true) (fun α=>SX.rcut_rel (g:=cellsH) (L:=L) (k:=0) (fun _=>rfl) (SX.cat1 (by kernel_rfl)) (by kernel_rfl) (by have:=(List.getElem?_eq_some_iff.1 hx).1;omega)) ?_
  refine SX.E (.bool true) (fun α=>SX.rcut_rel (g:=cellsH) (L:=L) (k:=1) (fun _=>rfl) (SX.cat1 (by kernel_rfl)) (by kernel_rfl) (by have:=(List.getElem?_eq_some_iff.1 hx).1;omega)) ?_
  refine SX.VC_df (.agg ((L.take 0++L.drop (0+1)).flatMap cellsH).toArray) (fun α=>SX.rdel_rel (g:=cellsH) (L:=L) (k:=0) (fun _=>rfl) cellsH_one (SX.cat1 (by kernel_rfl)) (by kernel_rfl) (by kernel_rfl) (List.getElem?_eq_some_iff.1 hx).1) (rfl) ?_
  refine SX.E (.bool false) (fun α=>SX.mlk_rel (nx:=ny) hJ.g keyPr_inj (fun _=>rfl) kd_pr hJ.gk hbd.key (SX.cat1 (by kernel_rfl)) (by kernel_rfl) (by rw [hnew];rfl)) ?_
  refine SX.B false (fun h33=>absurd h33 (by decide)) (fun h33=>?_)
  try simp only [NRM]at h33
  refine SX.E (.tuple #[valSg y,.bool ib]) (fun α=>SX.mlk_rel (nx:=nx1) (i:=x.1.sign) hJ.m keyI_inj (fun _=>rfl) kd_int hJ.ks rfl (SX.cat1 (by kernel_rfl)) (by kernel_rfl) (by cases ib with|true=>rw [hib1 rfl];rfl|false=>rw [(hib0 rfl).1,(hib0 rfl).2];rfl)) ?_
  refine SX.D (.bool ((x.1.kind:Int) == 2)) ?_
  refine SX.B ((x.1.kind:Int) == 2) (fun h35=>?_) (fun h35=>?_)
  ·try simp only [NRM]at h35
   refine SX.B ib (fun h34_1=>?_) (fun h34_1=>?_)
   ·try simp only [NRM]at h34_1
    exfalso;first|omega|exact bno (by assumption) (g1 (by omega))|exact bno (g4 (by omega)) (by assumption)|exact bno (g3 (by omega)) (by assumption)
   try simp only [NRM]at h34_1
   refine SX.D (.bool ((x.1.new.id:Int) != x.1.sign)) ?_
   refine SX.B ((x.1.new.id:Int) != x.1.sign) (fun h36=>?_) (fun h36=>?_)
   ·try simp only [NRM]at h36
    exfalso;first|omega|exact bno (by assumption) (g1 (by omega))|exact bno (g4 (by omega)) (by assumption)|exact bno (g3 (by omega)) (by assumption)
   try simp only [NRM]at h36
   obtain⟨nx2,l2,hput,hM2⟩:=hJ.m.put keyI_inj nx1 x.1.sign x.1.new
   have hk2:=hput.keys hJ.ks rfl
   refine SX.VC_df (.agg (qCells nx2 l2).toArray) (fun α=>msI hJ hput) (rfl) ?_
   refine SX.VC_df (.agg (qCells ny2 t2).toArray) (fun α=>msP hJ hbd hputG) (rfl) ?_
   refine SX.E (.int .i64 (((k+1:Nat):Int))) (fun α=>SX.W1 k) ?_
   exact SX.VC_again fun α=>⟨⟨k+1,L.take 0++L.drop (0+1),nx2,l2,ny2,t2,_,_,agE,hJ.go hx hM2 (upd_ins (by omega)) hk2 hputG hG2⟩,cast (by kernel_rfl) (out_lt hx)⟩
  try simp only [NRM]at h35
  refine SX.D (.bool ((x.1.kind:Int) == 3)) ?_
  refine SX.B ((x.1.kind:Int) == 3) (fun h36=>?_) (fun h36=>?_)
  ·try simp only [NRM]at h36
   refine SX.D (.bool (!(ib))) ?_
   refine SX.B (!(ib)) (fun h37=>?_) (fun h37=>?_)
   ·try simp only [NRM]at h37
    exfalso;first|omega|exact bno (by assumption) (g1 (by omega))|exact bno (g4 (by omega)) (by assumption)|exact bno (g3 (by omega)) (by assumption)
   try simp only [NRM]at h37
   obtain⟨l2,hput,hM2⟩:=hJ.m.del keyI_inj x.1.sign
   have hk2:=hput.keys hJ.ks
   refine SX.VC_df (.agg (qCells nx1 l2).toArray) (fun α=>SX.mdel_rel hJ.m (fun _=>rfl) kd_int hJ.ks rfl (SX.cat1 (by kernel_rfl)) (by kernel_rfl) hput) (rfl) ?_
   refine SX.VC_df (.agg (qCells ny2 t2).toArray) (fun α=>msP hJ hbd hputG) (rfl) ?_
   refine SX.E (.int .i64 (((k+1:Nat):Int))) (fun α=>SX.W1 k) ?_
   exact SX.VC_again fun α=>⟨⟨k+1,L.take 0++L.drop (0+1),nx1,l2,ny2,t2,_,_,agE,hJ.go hx hM2 (upd_rem (by omega)) hk2 hputG hG2⟩,cast (by kernel_rfl) (out_lt hx)⟩
  try simp only [NRM]at h36
  refine SX.D (.bool ((x.1.kind:Int) == 1)) ?_
  refine SX.B ((x.1.kind:Int) == 1) (fun h37=>?_) (fun h37=>?_)
  ·try simp only [NRM]at h37
   refine SX.D (.bool (!(ib))) ?_
   refine SX.B (!(ib)) (fun h38=>?_) (fun h38=>?_)
   ·try simp only [NRM]at h38
    exfalso;first|omega|exact bno (by assumption) (g1 (by omega))|exact bno (g4 (by omega)) (by assumption)|exact bno (g3 (by omega)) (by assumption)
   try simp only [NRM]at h38
   refine SX.D (.bool ((x.1.field:Int) == 1)) ?_
   refine SX.B ((x.1.field:Int) == 1) (fun h39=>?_) (fun h39=>?_)
   ·try simp only [NRM]at h39
    obtain⟨nx2,l2,hput,hM2⟩:=hJ.m.put keyI_inj nx1 x.1.sign (setF y 1 x.1.new)
    have hk2:=hput.keys hJ.ks rfl
    refine SX.VC_df (.agg (qCells nx2 l2).toArray) (fun α=>msI hJ hput) (rfl) ?_
    refine SX.VC_df (.agg (qCells ny2 t2).toArray) (fun α=>msP hJ hbd hputG) (rfl) ?_
    refine SX.E (.int .i64 (((k+1:Nat):Int))) (fun α=>SX.W1 k) ?_
    exact SX.VC_again fun α=>⟨⟨k+1,L.take 0++L.drop (0+1),nx2,l2,ny2,t2,_,_,agE,hJ.go hx hM2 (upd_set (by omega) (by omega) (hib1 (by simpa using h38))) hk2 hputG hG2⟩,cast (by kernel_rfl) (out_lt hx)⟩
   try simp only [NRM]at h39
   refine SX.D (.bool ((x.1.field:Int) == 2)) ?_
   refine SX.B ((x.1.field:Int) == 2) (fun h40=>?_) (fun h40=>?_)
   ·try simp only [NRM]at h40
    obtain⟨nx2,l2,hput,hM2⟩:=hJ.m.put keyI_inj nx1 x.1.sign (setF y 2 x.1.new)
    have hk2:=hput.keys hJ.ks rfl
    refine SX.VC_df (.agg (qCells nx2 l2).toArray) (fun α=>msI hJ hput) (rfl) ?_
    refine SX.VC_df (.agg (qCells ny2 t2).toArray) (fun α=>msP hJ hbd hputG) (rfl) ?_
    refine SX.E (.int .i64 (((k+1:Nat):Int))) (fun α=>SX.W1 k) ?_
    exact SX.VC_again fun α=>⟨⟨k+1,L.take 0++L.drop (0+1),nx2,l2,ny2,t2,_,_,agE,hJ.go hx hM2 (upd_set (by omega) (by omega) (hib1 (by simpa using h38))) hk2 hputG hG2⟩,cast (by kernel_rfl) (out_lt hx)⟩
   try simp only [NRM]at h40
   refine SX.D (.bool ((x.1.field:Int) == 3)) ?_
   refine SX.B ((x.1.field:Int) == 3) (fun h41=>?_) (fun h41=>?_)
   ·try simp only [NRM]at h41
    obtain⟨nx2,l2,hput,hM2⟩:=hJ.m.put keyI_inj nx1 x.1.sign (setF y 3 x.1.new)
    have hk2:=hput.keys hJ.ks rfl
    refine SX.VC_df (.agg (qCells nx2 l2).toArray) (fun α=>msI hJ hput) (rfl) ?_
    refine SX.VC_df (.agg (qCells ny2 t2).toArray) (fun α=>msP hJ hbd hputG) (rfl) ?_
    refine SX.E (.int .i64 (((k+1:Nat):Int))) (fun α=>SX.W1 k) ?_
    exact SX.VC_again fun α=>⟨⟨k+1,L.take 0++L.drop (0+1),nx2,l2,ny2,t2,_,_,agE,hJ.go hx hM2 (upd_set (by omega) (by omega) (hib1 (by simpa using h38))) hk2 hputG hG2⟩,cast (by kernel_rfl) (out_lt hx)⟩
   try simp only [NRM]at h41
   refine SX.D (.bool ((x.1.field:Int) == 4)) ?_
   refine SX.B ((x.1.field:Int) == 4) (fun h42=>?_) (fun h42=>?_)
   ·try simp only [NRM]at h42
    obtain⟨nx2,l2,hput,hM2⟩:=hJ.m.put keyI_inj nx1 x.1.sign (setF y 4 x.1.new)
    have hk2:=hput.keys hJ.ks rfl
    refine SX.VC_df (.agg (qCells nx2 l2).toArray) (fun α=>msI hJ hput) (rfl) ?_
    refine SX.VC_df (.agg (qCells ny2 t2).toArray) (fun α=>msP hJ hbd hputG) (rfl) ?_
    refine SX.E (.int .i64 (((k+1:Nat):Int))) (fun α=>SX.W1 k) ?_
    exact SX.VC_again fun α=>⟨⟨k+1,L.take 0++L.drop (0+1),nx2,l2,ny2,t2,_,_,agE,hJ.go hx hM2 (upd_set (by omega) (by omega) (hib1 (by simpa using h38))) hk2 hputG hG2⟩,cast (by kernel_rfl) (out_lt hx)⟩
   try simp only [NRM]at h42
   refine SX.D (.bool ((x.1.field:Int) == 5)) ?_
   refine SX.B ((x.1.field:Int) == 5) (fun h43=>?_) (fun h43=>?_)
   ·try simp only [NRM]at h43
    obtain⟨nx2,l2,hput,hM2⟩:=hJ.m.put keyI_inj nx1 x.1.sign (setF y 5 x.1.new)
    have hk2:=hput.keys hJ.ks rfl
    refine SX.VC_df (.agg (qCells nx2 l2).toArray) (fun α=>msI hJ hput) (rfl) ?_
    refine SX.VC_df (.agg (qCells ny2 t2).toArray) (fun α=>msP hJ hbd hputG) (rfl) ?_
    refine SX.E (.int .i64 (((k+1:Nat):Int))) (fun α=>SX.W1 k) ?_
    exact SX.VC_again fun α=>⟨⟨k+1,L.take 0++L.drop (0+1),nx2,l2,ny2,t2,_,_,agE,hJ.go hx hM2 (upd_set (by omega) (by omega) (hib1 (by simpa using h38))) hk2 hputG hG2⟩,cast (by kernel_rfl) (out_lt hx)⟩
   try simp only [NRM]at h43
   refine SX.D (.bool ((x.1.field:Int) == 6)) ?_
   refine SX.B ((x.1.field:Int) == 6) (fun h44=>?_) (fun h44=>?_)
   ·try simp only [NRM]at h44
    obtain⟨nx2,l2,hput,hM2⟩:=hJ.m.put keyI_inj nx1 x.1.sign (setF y 6 x.1.new)
    have hk2:=hput.keys hJ.ks rfl
    refine SX.VC_df (.agg (qCells nx2 l2).toArray) (fun α=>msI hJ hput) (rfl) ?_
    refine SX.VC_df (.agg (qCells ny2 t2).toArray) (fun α=>msP hJ hbd hputG) (rfl) ?_
    refine SX.E (.int .i64 (((k+1:Nat):Int))) (fun α=>SX.W1 k) ?_
    exact SX.VC_again fun α=>⟨⟨k+1,L.take 0++L.drop (0+1),nx2,l2,ny2,t2,_,_,agE,hJ.go hx hM2 (upd_set (by omega) (by omega) (hib1 (by simpa using h38))) hk2 hputG hG2⟩,cast (by kernel_rfl) (out_lt hx)⟩
   try simp only [NRM]at h44
   refine SX.D (.bool ((x.1.field:Int) == 7)) ?_
   refine SX.B ((x.1.field:Int) == 7) (fun h45=>?_) (fun h45=>?_)
   ·try simp only [NRM]at h45
    obtain⟨nx2,l2,hput,hM2⟩:=hJ.m.put keyI_inj nx1 x.1.sign (setF y 7 x.1.new)
    have hk2:=hput.keys hJ.ks rfl
    refine SX.VC_df (.agg (qCells nx2 l2).toArray) (fun α=>msI hJ hput) (rfl) ?_
    refine SX.VC_df (.agg (qCells ny2 t2).toArray) (fun α=>msP hJ hbd hputG) (rfl) ?_
    refine SX.E (.int .i64 (((k+1:Nat):Int))) (fun α=>SX.W1 k) ?_
    exact SX.VC_again fun α=>⟨⟨k+1,L.take 0++L.drop (0+1),nx2,l2,ny2,t2,_,_,agE,hJ.go hx hM2 (upd_set (by omega) (by omega) (hib1 (by simpa using h38))) hk2 hputG hG2⟩,cast (by kernel_rfl) (out_lt hx)⟩
   try simp only [NRM]at h45
   refine SX.D (.bool ((x.1.field:Int) == 8)) ?_
   refine SX.B ((x.1.field:Int) == 8) (fun h46=>?_) (fun h46=>?_)
   ·try simp only [NRM]at h46
    obtain⟨nx2,l2,hput,hM2⟩:=hJ.m.put keyI_inj nx1 x.1.sign (setF y 8 x.1.new)
    have hk2:=hput.keys hJ.ks rfl
    refine SX.VC_df (.agg (qCells nx2 l2).toArray) (fun α=>msI hJ hput) (rfl) ?_
    refine SX.VC_df (.agg (qCells ny2 t2).toArray) (fun α=>msP hJ hbd hputG) (rfl) ?_
    refine SX.E (.int .i64 (((k+1:Nat):Int))) (fun α=>SX.W1 k) ?_
    exact SX.VC_again fun α=>⟨⟨k+1,L.take 0++L.drop (0+1),nx2,l2,ny2,t2,_,_,agE,hJ.go hx hM2 (upd_set (by omega) (by omega) (hib1 (by simpa using h38))) hk2 hputG hG2⟩,cast (by kernel_rfl) (out_lt hx)⟩
   try simp only [NRM]at h46
   refine SX.D (.bool ((x.1.field:Int) == 9)) ?_
   refine SX.B ((x.1.field:Int) == 9) (fun h47=>?_) (fun h47=>?_)
   ·try simp only [NRM]at h47
    obtain⟨nx2,l2,hput,hM2⟩:=hJ.m.put keyI_inj nx1 x.1.sign (setF y 9 x.1.new)
    have hk2:=hput.keys hJ.ks rfl
    refine SX.VC_df (.agg (qCells nx2 l2).toArray) (fun α=>msI hJ hput) (rfl) ?_
    refine SX.VC_df (.agg (qCells ny2 t2).toArray) (fun α=>msP hJ hbd hputG) (rfl) ?_
    refine SX.E (.int .i64 (((k+1:Nat):Int))) (fun α=>SX.W1 k) ?_
    exact SX.VC_again fun α=>⟨⟨k+1,L.take 0++L.drop (0+1),nx2,l2,ny2,t2,_,_,agE,hJ.go hx hM2 (upd_set (by omega) (by omega) (hib1 (by simpa using h38))) hk2 hputG hG2⟩,cast (by kernel_rfl) (out_lt hx)⟩
   try simp only [NRM]at h47
   exfalso;first|omega|exact bno (by assumption) (g1 (by omega))|exact bno (g4 (by omega)) (by assumption)|exact bno (g3 (by omega)) (by assumption)
  try simp only [NRM]at h37
  exfalso;first|omega|exact bno (by assumption) (g1 (by omega))|exact bno (g4 (by omega)) (by assumption)|exact bno (g3 (by omega)) (by assumption)
 try simp only [NRM]at h25
 refine SX.D (.int .i64 (((m:Nat):Int))) ?_
 have hL0:L=[]:=List.length_eq_zero_iff.1 (by omega)
 subst hL0
 have hMb:M=findO b:=funext fun id=>hJ.left [] (.refl _) id
 refine SX.VC_loop (fun xs=>∃ j:Nat,xs=[.int .i64 (j:Int)]∧j≤m) (fun xs=>match xs with|[.int _ i]=>m-i.toNat|_=>0) (fun α=>⟨0,by kernel_rfl,by omega⟩) ?_
 rintro xs-⟨j,rfl,hjm⟩
 refine SX.D (.bool (decide (((j:Nat):Int)<((m:Nat):Int)))) ?_
 refine SX.B (decide (((j:Nat):Int)<((m:Nat):Int))) (fun h28=>?_) (fun h28=>?_)
 ·try simp only [NRM]at h28
  obtain⟨z,hz⟩:∃ z,b[j]?=some z:=⟨_,List.getElem?_eq_getElem (by omega)⟩
  refine SX.E (.bool true) (fun α=>SX.extBnd (A:=B) (n:=m) (c:=d) (j:=j) hB (by kernel_rfl) (by kernel_rfl) (by omega)) ?_
  refine SX.E (.agg (cellsSg z).toArray) (fun α=>SX.extElems (f:=cellsSg) (l:=b) (A:=B) (n:=m) (c:=d) (j:=j) (z:=z) (fun _=>rfl) hB (by kernel_rfl) (by kernel_rfl) (by omega) (.inl (.inr (.inl ⟨rfl,rfl,rfl⟩))) hz) ?_
  refine SX.E (valSg z) (fun α=>SX.mlk_rel (nx:=nx1) (i:=z.id) hJ.m keyI_inj (fun _=>rfl) kd_int hJ.ks rfl (SX.cat1 (by kernel_rfl)) (by kernel_rfl) (by rw [hMb,find_mem ob (List.mem_of_getElem? hz)];rfl)) ?_
  refine SX.E (.bool (true ^^ decide (z=z))) (fun α=>SX.eqr_rel (f:=cellsSg) cellsSg_inj (y:=z) (z:=z) (by kernel_rfl) (by kernel_rfl) (by kernel_rfl)) ?_
  refine SX.B (true ^^ decide (z=z)) (fun h32=>absurd h32 (by simp)) (fun h32=>?_)
  try simp only [NRM]at h32
  refine SX.E (.int .i64 (((j+1:Nat):Int))) (fun α=>SX.W1 j) ?_
  exact SX.VC_again fun α=>⟨⟨j+1,by kernel_rfl,by omega⟩,cast (by kernel_rfl) (show m-((j+1:Nat):Int).toNat<m-(j:Int).toNat by omega)⟩
 try simp only [NRM]at h28
 refine SX.E (.int .i64 (((l1.length:Nat):Int))) (fun α=>SX.mln_rel (nx:=nx1) hJ.m (fun _=>rfl) (SX.cat1 (by kernel_rfl))) ?_
 refine SX.D (.int .i64 (((m:Nat):Int))) ?_
 refine SX.D (.bool ((((l1.length:Nat):Int):Int) == ((m:Nat):Int))) ?_
 have hq:((((l1.length:Nat):Int):Int) == ((m:Nat):Int))=true:=by have:=map_len ob (hMb▸hJ.m);simp;omega
 exact SX.F (.bool ((((l1.length:Nat):Int):Int) == ((m:Nat):Int))) (by rw [hq])
end Go.Proofs.Ytnaooclbphaelaa
namespace Go.Proofs.Ytnaooclbphaelaa
set_option maxRecDepth 20000
open Go Go.RowKit Go.ChangeShapes Go.WideShapes Go.ChangeAt
theorem max_eq:maxLen=9223372036854775807:=by unfold maxLen;rfl
section
variable {H:Type}{enc:TypeId×Value→H}{P:Program}{w:World}{base:Nat}{spare:Nat→Bool}{held:Bool}{fuel:Nat}{t:TypeId}{cs:List Value}
theorem take_at{off:Nat}{v:Value}(h:(cs.drop off).take 1=[v]):cs[off]?=some v:=by
 have:((cs.drop off).take 1)[0]?=some v:=by rw [h];rfl
 simpa [List.getElem?_take,List.getElem?_drop]using this
theorem int_at{off:Nat}(hu:P.underlying t=some (.int .i64)){y:DataW H×List MemPlace}(h:DataW.trod enc P w base spare held fuel t ((cs.drop off).take 1)=some y):∃ n,cs[off]?=some (.int .i64 n):=by
 obtain⟨n,e,_⟩:=DataW.trod_int hu h
 exact⟨n,take_at e⟩
theorem ints2_at{off:Nat}{m k:Int}(h:(cs.drop off).take 2=[.int .i64 m,.int .i64 k]):cs[off]?=some (.int .i64 m)∧cs[off+1]?=some (.int .i64 k):=by
 have h0:((cs.drop off).take 2)[0]?=some (.int .i64 m):=by rw [h];rfl
 have h1:((cs.drop off).take 2)[1]?=some (.int .i64 k):=by rw [h];rfl
 simp [List.getElem?_take,List.getElem?_drop]at h0 h1
 exact⟨h0,h1⟩
end
section
variable {H:Type}{enc:TypeId×Value→H}{w:World}{base:Nat}{sp:Nat→Bool}{held:Bool}{r:Reach}{b0:Nat}{v:Value}{d:DataW H}{ps:List MemPlace}
theorem ratio_cells{n:Nat}{cs:List Value}{y:DataW H×List MemPlace}(hf:DataW.trod enc Try.prog w base sp held n 24 cs=some y):∃ m k:Int,cs=[.int .i64 m,.int .i64 k]:=by
 obtain⟨xs,n,_,_,hlen,hl,hx⟩:=DataW.trod_struct Try.underlying24 hf
 have hC:Try.prog.cellsOf 24=2:=by kernel_rfl
 rw [hC]at hlen
 have hl':xs.length=2:=hl
 have g0:DataW.trod enc Try.prog w base sp held n 3 ((cs.drop 0).take 1)=some (xs[0]'(by omega)):=(hx 0 _ rfl).trans (List.getElem?_eq_getElem _)
 obtain⟨v0,e0⟩:=int_at Try.underlying3 g0
 have g1:DataW.trod enc Try.prog w base sp held n 3 ((cs.drop 1).take 1)=some (xs[1]'(by omega)):=(hx 1 _ rfl).trans (List.getElem?_eq_getElem _)
 obtain⟨v1,e1⟩:=int_at Try.underlying3 g1
 refine⟨v0,v1,?_⟩
 apply List.ext_getElem?
 intro i
 by_cases hi:i<2
 ·have hc:i=0∨i=1:=by omega
  rcases hc with rfl|rfl
  ·exact e0
  exact e1
 rw [List.getElem?_eq_none (by omega),List.getElem?_eq_none (by show 2≤i;omega)]
theorem sign_cells{n:Nat}{cs:List Value}{y:DataW H×List MemPlace}(hf:DataW.trod enc Try.prog w base sp held n 26 cs=some y):∃ s:Sg,cs=cellsSg s:=by
 obtain⟨xs,n,_,_,hlen,hl,hx⟩:=DataW.trod_struct Try.underlying26 hf
 have hC:Try.prog.cellsOf 26=14:=by kernel_rfl
 rw [hC]at hlen
 have hl':xs.length=12:=hl
 have g0:DataW.trod enc Try.prog w base sp held n 3 ((cs.drop 0).take 1)=some (xs[0]'(by omega)):=(hx 0 _ rfl).trans (List.getElem?_eq_getElem _)
 obtain⟨v0,e0⟩:=int_at Try.underlying3 g0
 have g1:DataW.trod enc Try.prog w base sp held n 3 ((cs.drop 1).take 1)=some (xs[1]'(by omega)):=(hx 1 _ rfl).trans (List.getElem?_eq_getElem _)
 obtain⟨v1,e1⟩:=int_at Try.underlying3 g1
 have g2:DataW.trod enc Try.prog w base sp held n 3 ((cs.drop 2).take 1)=some (xs[2]'(by omega)):=(hx 2 _ rfl).trans (List.getElem?_eq_getElem _)
 obtain⟨v2,e2⟩:=int_at Try.underlying3 g2
 have g3:DataW.trod enc Try.prog w base sp held n 3 ((cs.drop 3).take 1)=some (xs[3]'(by omega)):=(hx 3 _ rfl).trans (List.getElem?_eq_getElem _)
 obtain⟨v3,e3⟩:=int_at Try.underlying3 g3
 have g4:DataW.trod enc Try.prog w base sp held n 3 ((cs.drop 4).take 1)=some (xs[4]'(by omega)):=(hx 4 _ rfl).trans (List.getElem?_eq_getElem _)
 obtain⟨v4,e4⟩:=int_at Try.underlying3 g4
 have g5:DataW.trod enc Try.prog w base sp held n 3 ((cs.drop 5).take 1)=some (xs[5]'(by omega)):=(hx 5 _ rfl).trans (List.getElem?_eq_getElem _)
 obtain⟨v5,e5⟩:=int_at Try.underlying3 g5
 have g6:DataW.trod enc Try.prog w base sp held n 3 ((cs.drop 6).take 1)=some (xs[6]'(by omega)):=(hx 6 _ rfl).trans (List.getElem?_eq_getElem _)
 obtain⟨v6,e6⟩:=int_at Try.underlying3 g6
 have g7:DataW.trod enc Try.prog w base sp held n 3 ((cs.drop 7).take 1)=some (xs[7]'(by omega)):=(hx 7 _ rfl).trans (List.getElem?_eq_getElem _)
 obtain⟨v7,e7⟩:=int_at Try.underlying3 g7
 have g8:DataW.trod enc Try.prog w base sp held n 3 ((cs.drop 8).take 1)=some (xs[8]'(by omega)):=(hx 8 _ rfl).trans (List.getElem?_eq_getElem _)
 obtain⟨v8,e8⟩:=int_at Try.underlying3 g8
 have g9:DataW.trod enc Try.prog w base sp held n 3 ((cs.drop 9).take 1)=some (xs[9]'(by omega)):=(hx 9 _ rfl).trans (List.getElem?_eq_getElem _)
 obtain⟨v9,e9⟩:=int_at Try.underlying3 g9
 have g10:DataW.trod enc Try.prog w base sp held n 24 ((cs.drop 10).take 2)=some (xs[10]'(by omega)):=(hx 10 _ rfl).trans (List.getElem?_eq_getElem _)
 obtain⟨v10,v11,r10⟩:=ratio_cells g10
 obtain⟨e10,e11⟩:=ints2_at r10
 have g12:DataW.trod enc Try.prog w base sp held n 24 ((cs.drop 12).take 2)=some (xs[11]'(by omega)):=(hx 11 _ rfl).trans (List.getElem?_eq_getElem _)
 obtain⟨v12,v13,r12⟩:=ratio_cells g12
 obtain⟨e12,e13⟩:=ints2_at r12
 refine⟨⟨v0,v1,v2,v3,v4,v5,v6,v7,v8,v9,v10,v11,v12,v13⟩,?_⟩
 apply List.ext_getElem?
 intro i
 by_cases hi:i<14
 ·have hc:i=0∨i=1∨i=2∨i=3∨i=4∨i=5∨i=6∨i=7∨i=8∨i=9∨i=10∨i=11∨i=12∨i=13:=by omega
  rcases hc with rfl|rfl|rfl|rfl|rfl|rfl|rfl|rfl|rfl|rfl|rfl|rfl|rfl|rfl
  ·exact e0
  ·exact e1
  ·exact e2
  ·exact e3
  ·exact e4
  ·exact e5
  ·exact e6
  ·exact e7
  ·exact e8
  ·exact e9
  ·exact e10
  ·exact e11
  ·exact e12
  exact e13
 rw [List.getElem?_eq_none (by omega),List.getElem?_eq_none (by show 14≤i;omega)]
theorem els_of{β:Type}{f:β→List Value}{Q:β→Prop}{sz:Nat}(a:Addr):∀ (len:Nat),(∀ i,i<len→∃ c:β,Q c∧w.cells? base (a.add (i*sz)) sz=some (f c)) →
 ∃ l:List β,l.length=len∧(∀ c∈l,Q c)∧∀ i c,l[i]?=some c→w.cells? base (a.add (i*sz)) sz=some (f c)
 | 0,_=>⟨[],rfl,(fun _ h=>nomatch h),by simp⟩
 | len+1,h=>by
  obtain⟨l,hl,hq,hx⟩:=els_of a len (fun i hi=>h i (by omega))
  obtain⟨c,hqc,hc⟩:=h len (by omega)
  refine⟨l++[c],by simp [hl],fun c' hc'=>?_,fun i c' hc'=>?_⟩
  ·rcases List.mem_append.1 hc' with h1|h1
   ·exact hq c' h1
   obtain rfl:c'=c:=by simpa using h1
   exact hqc
  rw [List.getElem?_append]at hc'
  split at hc'
  ·exact hx i c' hc'
  have:i-l.length=0:=by
   rcases Nat.eq_zero_or_pos (i-l.length)with h0|h0
   ·exact h0
   rw [List.getElem?_eq_none (by simp;omega)]at hc';cases hc'
  rw [this]at hc'
  obtain rfl:c=c':=by simpa using hc'
  obtain rfl:i=len:=by omega
  exact hc
theorem slice_of{β:Type}{f:β→List Value}{Q:β→Prop}{sz:Nat}{t e:TypeId}{n:Nat}{cs:List Value}{y:DataW H×List MemPlace}(hu:Try.prog.underlying t=some (.slice e))(hC:Try.prog.cellsOf e=sz)(h0:0<sz)(hlen:∀ c,(f c).length=sz)
 (hel:∀ (n:Nat) (cs:List Value) (y:DataW H×List MemPlace),DataW.trod enc Try.prog w base sp held n e cs=some y→∃ c,Q c∧cs=f c) (hf:DataW.trod enc Try.prog w base sp held n t cs=some y) :
 ∃ (A:Option Addr) (k cap:Nat) (l:List β),cs=[.slice A k cap]∧Rd w sz A k (l.flatMap f)∧k≤cap∧cap≤maxLen∧∀ c∈l,Q c:=by
 rcases DataW.trod_slice hu hf with ⟨he,_⟩|⟨a,len,cap',elems,rest,m,_,he,_,_,hlc,hcm,hel',hcell,_,_⟩
 ·exact⟨none,0,0,[],he,⟨by simp,fun h=>absurd h (by omega)⟩,Nat.le_refl _,by omega,fun _ h=>nomatch h⟩
 rw [hC]at hcell
 obtain⟨l,hl,hq,hx⟩:=els_of (w:=w) (base:=base) (f:=f) (Q:=Q) (sz:=sz) a len fun i hi=>by
  have h1:=hcell i hi
  rw [List.getElem?_eq_getElem (by omega)]at h1
  cases hq:w.cells? base (a.add (i*sz)) sz with
  | none=>rw [hq]at h1;simp at h1
  | some cs =>
   rw [hq]at h1
   obtain⟨c,hqc,rfl⟩:=hel _ _ _ (by simpa using h1)
   exact⟨c,hqc,rfl⟩
 have hll:(l.flatMap f).length=len*sz:=by rw [SX.flat_len hlen,hl]
 refine⟨some a,len,cap',l,he,⟨hll,fun hn=>⟨a,rfl,?_,fun j u hu=>?_⟩⟩,by omega,by omega,hq⟩
 ·obtain⟨c,hc⟩:∃ c,l[0]?=some c:=⟨_,List.getElem?_eq_getElem (by omega)⟩
  have:=World.cells?_block (hx 0 c hc) (by omega)
  rwa [block_of_add]at this
 have hj:j<len*sz:=by
  have:=(List.getElem?_eq_some_iff.1 hu).1
  rwa [hll]at this
 have hd:j / sz<len:=Nat.div_lt_of_lt_mul (by rw [Nat.mul_comm];exact hj)
 have hm:j % sz<sz:=Nat.mod_lt _ h0
 obtain⟨c,hc⟩:∃ c,l[j / sz]?=some c:=⟨_,List.getElem?_eq_getElem (by omega)⟩
 have hw:=hx _ c hc
 have hjj:j / sz*sz+j % sz=j:=by rw [Nat.mul_comm];exact Nat.div_add_mod j sz
 have h4:(f c)[j % sz]?=some u:=by
  rw [← hjj,← List.getElem?_drop,SX.flat_elem hlen hc,List.getElem?_append_left (by rw [hlen];exact hm)]at hu
  exact hu
 obtain⟨_,_,h5⟩:=World.cells?_some hw
 have h6:=(h5 (j % sz) hm).trans h4
 have h7:(a.add (j / sz*sz)).add (j % sz)=a.add j:=by rw [Addr.add_add,hjj]
 rw [h7]at h6
 exact h6
theorem open_sgs(hd:DataW.Trod enc Try.prog w base sp held 22 v d ps):∃ (A:Option Addr)(n cap:Nat)(l:List Sg),v.cells.toList=[.slice A n cap]∧Rd w 14 A n (sgsL l)∧n≤cap∧cap≤maxLen:=by
 obtain⟨fuel,hf⟩:=hd
 obtain⟨A,k,cap,l,h1,h2,h3,h4,_⟩:=slice_of (f:=cellsSg) (sz:=14) (Q:=fun _=>True) Try.underlying22 (by kernel_rfl) (by decide) (fun _=>rfl) (fun n cs y h=>by obtain⟨s,e⟩:=sign_cells h;exact⟨s,trivial,e⟩) hf
 exact⟨A,k,cap,l,h1,h2,h3,h4⟩
theorem v_slice{r:Reach}{b0:Nat}{t e:TypeId}(hu:Try.prog.underlying t=some (.slice e))(hval:Value.okWide Try.prog w r b0 t v){A:Option Addr}{n cap:Nat}(h:v.cells.toList=[.slice A n cap]):v=.slice A n cap:=by
 obtain⟨A',n',c',rfl⟩:=okWide_slice hu hval
 simpa [Value.cells]using h
end
end Go.Proofs.Ytnaooclbphaelaa
namespace Go.Proofs.Ytnaooclbphaelaa
set_option maxRecDepth 20000
open Go Go.RowKit Go.ChangeShapes Go.WideShapes Go.ChangeAt
section
variable {H:Type}{enc:TypeId×Value→H}{w:World}{base:Nat}{sp:Nat→Bool}{held:Bool}{r:Reach}{b0:Nat}{v:Value}{d:DataW H}{ps:List MemPlace}
theorem u16_cell{n:Nat}{cs:List Value}{y:DataW H×List MemPlace}(hf:DataW.trod enc Try.prog w base sp held n 53 cs=some y):∃ t:Nat,t≤65535∧cs=c16 t:=by
 obtain⟨n,e,_,hw⟩:=DataW.trod_int Try.underlying53 hf
 have h:(decide (IntKind.u16.min≤n) && decide (n≤IntKind.u16.max))=true:=hw
 rw [Bool.and_eq_true,decide_eq_true_eq,decide_eq_true_eq]at h
 have h1:0≤n:=h.1
 have h2:n≤65535:=h.2
 refine⟨n.toNat,by omega,e.trans ?_⟩
 show [Value.int .u16 n]=[Value.int .u16 (n.toNat:Int)]
 rw [Int.toNat_of_nonneg h1]
theorem open_u16s(hd:DataW.Trod enc Try.prog w base sp held 50 v d ps):∃ (A:Option Addr)(n cap:Nat)(l:List Nat),v.cells.toList=[.slice A n cap]∧Rd w 1 A n (tsL l)∧n≤cap∧cap≤maxLen∧∀ t∈l,t≤65535:=by
 obtain⟨fuel,hf⟩:=hd
 exact slice_of (f:=c16) (sz:=1) (Q:=fun t=>t≤65535) Try.underlying50 (by kernel_rfl) (by decide) (fun _=>rfl) (fun n cs y h=>u16_cell h) hf
end
end Go.Proofs.Ytnaooclbphaelaa
namespace Go.Proofs.Ytnaooclbphaelaa.editsDiff
open Go Go.ChangeShapes Go.WideShapes Go.ChangeAt Go.RowKit
set_option maxRecDepth 100000 in
theorem lifted(os:Os)(started:os.Started)(H:Type)(enc:TypeId×Value→H) :
 ReturnsInHanded {} Try.checked os 8 .any (Rows.editsDiffSpec.pre6 enc Try.prog Try.f8 Rows.editsDiffRow.domain false) (Rows.editsDiffSpec.post enc Try.prog Try.f8 false true false false):=by
 refine returnsInHanded_of_change (C:=Try.checked) ownK started (by kernel_rfl) Try.func8
  (ChangeSpec.witness6 (enc:=enc) (C:=Try.checked) false ⟨#[],#[.slice none 0 0,.slice none 0 0,.slice none 0 0],[]⟩ 8 (by kernel_rfl) (by kernel_rfl) (by kernel_rfl) (by kernel_rfl)) ?_
 intro W base args ds gs before hval0 hW hcnd _
 have hval:∀ (j:Nat) t v,Try.f8.params[j]?=some t→args[j]?=some v→Value.okWide Try.prog W .any base t v:=hval0
 have hW':=hW
 obtain⟨p,q,hA0,hV,rfl,hfz,hnd⟩:=hW
 have hA:DataW.TrodAll enc Try.prog W 0 (fun _=>true) true Try.f8.params.toList args.toList ds p:=hA0
 rw [Try.params8]at hA hval
 obtain⟨v0,vs0,d0,ds0,p0,q0,hargs,rfl,rfl,h0,r0⟩:=trodAll_cons hA
 obtain⟨v1,vs1,d1,ds1,p1,q1,rfl,rfl,rfl,h1,r1⟩:=trodAll_cons r0
 obtain⟨v2,vs2,d2,ds2,p2,q2,rfl,rfl,rfl,h2,r2⟩:=trodAll_cons r1
 obtain⟨rfl,rfl,rfl⟩:=trodAll_nil r2
 obtain rfl:args=#[v0,v1,v2]:=by cases args;simp_all
 obtain⟨rfl,rfl⟩:=trodVars_none hV
 obtain⟨A0,n0,c0,l0,e0,hr0,hc0,hm0⟩:=open_sgs h0
 obtain rfl:=v_slice Try.underlying22 (hval 0 22 v0 rfl rfl) e0
 rw [max_eq]at hm0
 obtain⟨A1,n1,c1,l1,e1,hr1,hc1,hm1⟩:=open_sgs h1
 obtain rfl:=v_slice Try.underlying22 (hval 1 22 v1 rfl rfl) e1
 rw [max_eq]at hm1
 obtain⟨A2,n2,c2,l2,e2,hr2,hc2,hm2,hq2⟩:=open_u16s h2
 obtain rfl:=v_slice Try.underlying50 (hval 2 50 v2 rfl rfl) e2
 rw [max_eq]at hm2
 clear hA0 hval0
 refine(lediff_any l0 A0 n0 c0 l1 A1 n1 c1 l2 A2 n2 c2 W hr0 (by omega) hc0 hr1 (by omega) hc1 hr2 (by omega) hc2 hq2  ).mono fun e W' ⟨he,hb⟩=>?_
 subst he
 exact⟨_,rfl,law_post laidOut (by kernel_rfl) rfl hW' hb rfl rfl Try.underlying4⟩
theorem over:Rows.editsDiffRow.holds Try.pinned (OpenSpec.ofChange Rows.editsDiffSpec) :=
 OpenClaim.holds_of_wide 8 Try.f8 rfl rfl rfl rfl rfl rfl rfl ⟨rfl,rfl,rfl,rfl,rfl⟩ rfl rfl rfl rfl rfl (by kernel_rfl) Try.func8 (by kernel_rfl)
  (of_decide_eq_true (by kernel_rfl)) (by unfold Func.isWrapper;first|(rw [if_pos (by decide +kernel)];kernel_rfl)|(rw [if_neg (by decide +kernel)];exact⟨rfl,rfl⟩))
  (fun os started H enc _=>lifted os started H enc)
theorem proved:Rows.EditsDiffSaid :=
 over
#print axioms proved
end Go.Proofs.Ytnaooclbphaelaa.editsDiff
