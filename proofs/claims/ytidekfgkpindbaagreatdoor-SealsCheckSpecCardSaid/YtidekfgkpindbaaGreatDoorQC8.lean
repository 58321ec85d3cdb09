/-
  The statement 'SealsCheckSpec' as its tied card: for every input the law returns true, and each argument reads as it read before; the listed variables are as the program's text lays them. No other condition.
-/
import Derived.Test.YtidekfgkpindbaaGreatDoorQC7
import Derived.Scope
import Derived.Test.YtidekfgkpindbaaGreatDoorQC6
import Derived.Test.YtidekfgkpindbaaGreatDoorCards
import Derived.Test.YtidekfgkpindbaaGreatDoorTie
import Derived.SevenTiedAt
set_option linter.unusedSimpArgs false
set_option linter.unusedVariables false
set_option maxRecDepth 100000
set_option maxHeartbeats 4000000
namespace Go.Proofs.YtidekfgkpindbaaGreatDoor
open Go Go.RowKit SX
def mh(n i:Nat):Nat:=if h:n≤1 then 0 else(if n≤(i^^^1)then 0 else 1)+mh ((n+1) / 2) (i / 2)
termination_by n
decreasing_by omega
theorem yc{n i:Nat}(h:n≤1):mh n i=0:=by rw [mh,dif_pos h]
theorem Cc{n i:Nat}(h:¬ n≤1):mh n i=(if n≤(i^^^1)then 0 else 1)+mh ((n+1) / 2) (i / 2):=by conv=>lhs;rw [mh,dif_neg h]
theorem ID(n:Nat):∀ (i:Nat)(d:Dg)(p:List Dg),(eY n i d p).isSome=decide (p.length=mh n i):=by
 induction n using Nat.strongRecOn with
 | _ n ih =>
  intro i d p
  by_cases h:n≤1
  ·rw [mb h,yc h]
   cases p<;>simp
  rw [Cc h]
  by_cases h2:n≤(i^^^1)
  ·rw [ib h h2,Option.isSome_map,ih _ ab,if_pos h2,Nat.zero_add]
  rw [if_neg h2]
  rcases p with _|⟨q,r⟩
  ·rw [ma h h2]
   simp;omega
  by_cases h3:i % 2=0
  ·rw [ic h h2 h3,Option.isSome_map,ih _ ab]
   simp;omega
  rw [jI h h2 h3,Option.isSome_map,ih _ ab]
  simp;omega
def iv(d:Dg)(R:List Rw):Dg:=(R.getLast?.map (·.1)).getD d
theorem j4(d:Dg)(a:Rw)(R:List Rw):iv d (a::R)=iv a.1 R:=by
 cases R with
 | nil=>rfl
 | cons b R=>unfold iv;rw [List.getLast?_cons_cons];cases h:(b::R).getLast? with
  | none=>simp at h
  | some z=>rfl
theorem jo(n:Nat):∀ (i:Nat)(d:Dg)(p:List Dg),bc n i d p=(eY n i d p).map (iv d):=by
 induction n using Nat.strongRecOn with
 | _ n ih =>
  intro i d p
  by_cases h:n≤1
  ·rw [lH h,mb h]
   split<;>rfl
  by_cases h2:n≤(i^^^1)
  ·rw [o4 h h2,ib h h2,ih _ ab,Option.map_map]
   congr 1;funext R;exact(j4 d (d,[]) R).symm
  rcases p with _|⟨q,r⟩
  ·rw [tI h h2,ma h h2];rfl
  by_cases h3:i % 2=0
  ·rw [o5 h h2 h3,ic h h2 h3,ih _ ab,Option.map_map]
   congr 1;funext R;exact(j4 d (bP (gx d q),gx d q) R).symm
  rw [mD h h2 h3,jI h h2 h3,ih _ ab,Option.map_map]
  congr 1;funext R;exact(j4 d (bP (gx q d),gx q d) R).symm
def nY:SX.Tree :=
(.loop [(.q 0),(.q 1),(.i 0)] [.one,.one,.one]
(.df (.bin .gtr 3) [(.q 2),(.i 1)] .one
(.br 5 []
(.df (.bin .rem 3) [(.q 3),(.i 2)] .one
(.df (.bin .eql 3) [(.q 6),(.i 1)] .one
(.br 7 []
(.df (.bin .add 3) [(.q 4),(.i 1)] .one
(.df (.bin .add 3) [(.q 2),(.i 1)] .one
(.df (.bin .quo 3) [(.q 9),(.i 2)] .one
(.df (.bin .quo 3) [(.q 3),(.i 2)] .one
(.again 0 [(.q 10),(.q 11),(.q 8)])))))
(.df (.bin .add 3) [(.q 3),(.i 1)] .one
(.df (.bin .lss 3) [(.q 8),(.q 2)] .one
(.br 9 []
(.df (.bin .add 3) [(.q 4),(.i 1)] .one
(.df (.bin .add 3) [(.q 2),(.i 1)] .one
(.df (.bin .quo 3) [(.q 11),(.i 2)] .one
(.df (.bin .quo 3) [(.q 3),(.i 2)] .one
(.again 0 [(.q 12),(.q 13),(.q 10)])))))
(.df (.bin .add 3) [(.q 2),(.i 1)] .one
(.df (.bin .quo 3) [(.q 10),(.i 2)] .one
(.df (.bin .quo 3) [(.q 3),(.i 2)] .one
(.again 0 [(.q 11),(.q 12),(.q 4)]))))))))))
(.ret (.q 4) [] []))))
def vl:List SX.V:=[.x 0 [],.x 1 []]
def xG:kp:=⟨fun f=>true,[⟨100,2,[(.s 0,.one),(.s 1,.one),(.s 5,.one)]⟩],0,100⟩
theorem yW(K A:QV):QU (La K A) xG 100 Tryz.f100 vl [.one,.one]=nY:=aa
theorem yI(n i:Nat)(w:World)(hi:i<n)(hn:n≤65536):RT 100 #[.int .i64 (n:Int),.int .i64 (i:Int)] w (.int .i64 (mh n i:Int)):=by
 refine QG (yW (KW w) QW) [.int .i64 (n:Int),.int .i64 (i:Int)] (p8 _ _) Tryz.func100 ?_ ?_
 ·exact fun W hW v z xs h=>h W hW
 unfold nY
 refine ck (fun xs=>∃ n1 i1 kk:Nat,xs=[.int .i64 (n1:Int),.int .i64 (i1:Int),.int .i64 (kk:Int)]∧i1<n1∧n1+kk≤65536∧kk+mh n1 i1=mh n i) (fun xs=>match xs with|.int _ i::_=>i.toNat|_=>0) (fun α=>⟨n,i,0,aa,hi,ab,ab⟩) ?_
 rintro xs-⟨n1,i1,kk,rfl,hi1,hn1,hI⟩
 have hxo:=CM i1
 refine QF (.bool (decide (1<n1))) (eN n1 1) ?_
 refine QD (decide (1<n1)) (fun h1=>?_) (fun h1=>?_)
 ·have h1:1<n1:=af h1
  rw [Cc ab]at hI
  refine QF (.int .i64 ((i1 % 2:Nat):Int)) (oB (a:=i1) ab) ?_
  refine QB (.bool (((i1 % 2:Nat):Int) == 1)) ?_
  refine QD (((i1 % 2:Nat):Int) == 1) (fun h3=>?_) (fun h3=>?_)
  ·have h3:i1 % 2=1:=by simp at h3;omega
   rw [if_neg ab]at hxo
   rw [if_neg ab]at hI
   refine QF (.int .i64 ((kk+1:Nat):Int)) (cC (a:=kk) (b:=1) (d:=kk+1) rfl ab) ?_
   refine QF (.int .i64 ((n1+1:Nat):Int)) (cC (a:=n1) (b:=1) (d:=n1+1) rfl ab) ?_
   refine QF (.int .i64 (((n1+1) / 2:Nat):Int)) (cM (a:=n1+1) ab) ?_
   refine QF (.int .i64 ((i1 / 2:Nat):Int)) (cM (a:=i1) ab) ?_
   exact bW rfl (fun α=>⟨(n1+1) / 2,i1 / 2,kk+1,aa,ab,ab,ab⟩) (fun α=>cast aa (show(((n1+1) / 2:Nat):Int).toNat<(n1:Int).toNat by omega))
  have h3:i1 % 2=0:=by simp at h3;omega
  rw [if_pos h3]at hxo
  refine QF (.int .i64 ((i1+1:Nat):Int)) (cC (a:=i1) (b:=1) (d:=i1+1) rfl ab) ?_
  refine QF (.bool (decide (i1+1<n1))) (dD (i1+1) n1) ?_
  refine QD (decide (i1+1<n1)) (fun h4=>?_) (fun h4=>?_)
  ·have h4:i1+1<n1:=af h4
   rw [if_neg ab]at hI
   refine QF (.int .i64 ((kk+1:Nat):Int)) (cC (a:=kk) (b:=1) (d:=kk+1) rfl ab) ?_
   refine QF (.int .i64 ((n1+1:Nat):Int)) (cC (a:=n1) (b:=1) (d:=n1+1) rfl ab) ?_
   refine QF (.int .i64 (((n1+1) / 2:Nat):Int)) (cM (a:=n1+1) ab) ?_
   refine QF (.int .i64 ((i1 / 2:Nat):Int)) (cM (a:=i1) ab) ?_
   exact bW rfl (fun α=>⟨(n1+1) / 2,i1 / 2,kk+1,aa,ab,ab,ab⟩) (fun α=>cast aa (show(((n1+1) / 2:Nat):Int).toNat<(n1:Int).toNat by omega))
  have h4:¬ i1+1<n1:=af h4
  rw [if_pos ab]at hI
  refine QF (.int .i64 ((n1+1:Nat):Int)) (cC (a:=n1) (b:=1) (d:=n1+1) rfl ab) ?_
  refine QF (.int .i64 (((n1+1) / 2:Nat):Int)) (cM (a:=n1+1) ab) ?_
  refine QF (.int .i64 ((i1 / 2:Nat):Int)) (cM (a:=i1) ab) ?_
  exact bW rfl (fun α=>⟨(n1+1) / 2,i1 / 2,kk,aa,ab,ab,ab⟩) (fun α=>cast aa (show(((n1+1) / 2:Nat):Int).toNat<(n1:Int).toNat by omega))
 have h1:¬ 1<n1:=af h1
 rw [yc ab]at hI
 rw [← hI]
 exact QE (.int .i64 (kk:Int)) rfl
noncomputable def Ji(nb:Nat)(K A:QV):SX.Cx:={ La K A with nb:=nb,la:=true,bsr:=true,cut:=[(21,1000065,false),(23,3,true)] }
theorem Py(nb:Nat)(K A:QV):(Ji nb K A).Ok:=⟨(p8 K A).r,(p8 K A).w,(p8 K A).n⟩
def uW:SX.Tree :=
(.df (.call 89 [.no,(.ext 1)]) [(.k (.string ⟨#[108,101,97,102]⟩)),(.q 2)] (.sl 1)
(.df (.call 88 [(.row 1 [(.q 4)])]) [(.row 0)] (.ag 32)
(.df (.lastq 1) [(.cat [(.q 4)])] .one
(.loop [(.q 0),(.q 1),(.i 0),(.q 6),(.cat [(.a (QJ 5 0 32))]),(.cat [(.a [(.q 6)])])] [.one,.one,.one,.one,.any,.any]
(.df (.bin .gtr 3) [(.q 7),(.i 1)] .one
(.br 13 []
(.df (.rlen 32) [(.cat [(.q 11)])] .one
(.df (.bin .sub 3) [(.q 14),(.i 1)] .one
(.df (.rbnd 32) [(.cat [(.q 11)]),(.q 15)] .one
(.df (.relems 32 0 32) [(.cat [(.q 11)]),(.q 15)] (.ag 32)
(.df (.bin .rem 3) [(.q 8),(.i 2)] .one
(.df (.bin .eql 3) [(.q 18),(.i 1)] .one
(.br 19 []
(.df (.bin .rem 3) [(.q 8),(.i 2)] .one
(.df (.bin .eql 3) [(.q 20),(.i 1)] .one
(.br 21 []
(.df .bnd [(.q 3),(.q 9)] .one
(.df (.elems 32 0 32) [(.q 3),(.q 9)] (.ag 32)
(.df (.call 90 [.no,.no]) [(.a (QJ 23 0 32)),(.a (QJ 17 0 32))] (.sl 1)
(.df (.call 88 [(.row 1 [(.q 24)])]) [(.row 15)] (.ag 32)
(.df (.dN 32 32 (.row 32 [(.a (QJ 25 0 32))])) [(.cat [(.q 11)]),(.row 16)] .any
(.df (.lastq 1) [(.cat [(.q 24)])] .one
(.df (.dN 1 24 (.row 1 [(.a [(.q 27)])])) [(.cat [(.q 12)]),(.row 18)] .any
(.df (.bin .add 3) [(.q 9),(.i 1)] .one
(.df (.bin .add 3) [(.q 7),(.i 1)] .one
(.df (.bin .quo 3) [(.q 30),(.i 2)] .one
(.df (.bin .quo 3) [(.q 8),(.i 2)] .one
(.again 0 [(.q 31),(.q 32),(.q 29),(.q 27),(.cat [(.q 11),(.q 26)]),(.cat [(.q 12),(.q 28)])])))))))))))) (.bad 70 []))))
(.df (.bin .add 3) [(.q 8),(.i 1)] .one
(.df (.bin .lss 3) [(.q 20),(.q 7)] .one
(.br 21 []
(.df (.bin .rem 3) [(.q 8),(.i 2)] .one
(.df (.bin .eql 3) [(.q 22),(.i 1)] .one
(.br 23 [] (.bad 70 [])
(.df .bnd [(.q 3),(.q 9)] .one
(.df (.elems 32 0 32) [(.q 3),(.q 9)] (.ag 32)
(.df (.call 90 [.no,.no]) [(.a (QJ 17 0 32)),(.a (QJ 25 0 32))] (.sl 1)
(.df (.call 88 [(.row 1 [(.q 26)])]) [(.row 15)] (.ag 32)
(.df (.dN 32 32 (.row 32 [(.a (QJ 27 0 32))])) [(.cat [(.q 11)]),(.row 16)] .any
(.df (.lastq 1) [(.cat [(.q 26)])] .one
(.df (.dN 1 24 (.row 1 [(.a [(.q 29)])])) [(.cat [(.q 12)]),(.row 18)] .any
(.df (.bin .add 3) [(.q 9),(.i 1)] .one
(.df (.bin .add 3) [(.q 7),(.i 1)] .one
(.df (.bin .quo 3) [(.q 32),(.i 2)] .one
(.df (.bin .quo 3) [(.q 8),(.i 2)] .one
(.again 0 [(.q 33),(.q 34),(.q 31),(.q 29),(.cat [(.q 11),(.q 28)]),(.cat [(.q 12),(.q 30)])])))))))))))))))
(.df (.dN 32 32 (.row 32 [(.a (QJ 17 0 32))])) [(.cat [(.q 11)]),(.row 10)] .any
(.df (.dN 1 24 (.row 1 [(.a [(.k (.slice none 0 0))])])) [(.cat [(.q 12)]),(.row 12)] .any
(.df (.bin .add 3) [(.q 7),(.i 1)] .one
(.df (.bin .quo 3) [(.q 24),(.i 2)] .one
(.df (.bin .quo 3) [(.q 8),(.i 2)] .one
(.again 0 [(.q 25),(.q 26),(.q 9),(.q 10),(.cat [(.q 11),(.q 22)]),(.cat [(.q 12),(.q 23)])]))))))))))))))))
(.ret (.t [(.row 7),(.row 8)]) (List.replicate 7 none++[(some ⟨[(.q 11)],27,(.row 32)⟩),(some ⟨[(.q 12)],46,(.row 1)⟩)]) [])))))))
def Da:List SX.V:=[.x 0 [],.x 1 [],.x 2 [],.x 3 []]
def FP:kp:=⟨fun f=>true,[⟨69,5,[(.s 0,.one),(.s 1,.one),(.s 13,.one),(.s 10,.one),(.s 11,.row 32 27),(.s 12,.row 1 46)]⟩],12,100⟩
theorem HV(nb:Nat)(K A:QV):QU (Ji nb K A) FP 69 Tryz.f69 Da [.one,.one,.one,.one]=uW:=aa
def y5(h1 h2:Value):Value:=.tuple #[h1,h2]
theorem H4(n i:Nat)(lf:List W8)(p:List Dg)(R0:List Rw)(A:Option Addr)(k e:Nat)(B:Option Addr)(m c:Nat)(w:World)(hi:i<n)(hn:n≤65536)(hrl:Rd w 1 A k (lf.flatMap c8))(hce:k≤e)(hlfl:lf.length≤17592186044416)(hr:Rd w 32 B m (bf p))(hc:m≤c)(hR0:eY n i (bP (bI lf)) p=some R0):Calls Tryz.prog 69 #[.int .i64 (n:Int),.int .i64 (i:Int),.slice A k e,.slice B m c] w fun e w'=>zx w w' ((bP (bI lf),bI lf)::R0) e y5:=by
 refine QG (HV w.heap.size (KW w) QW) [.int .i64 (n:Int),.int .i64 (i:Int),.slice A k e,.slice B m c] (Py _ _ _) Tryz.func69 ?_ ?_ ⟨rfl,Nat.le_refl _⟩ (fun _ s sz cells h=>h.elim)
 ·exact fun W hW v z xs h=>h W hW
 have hKl:KW w (.slice A k e) 1 (lf.flatMap c8):=fun W hW=>⟨hrl.aJ hW,hce⟩
 have hB:=SX.rd_some hr
 have hpm:p.length=m:=by have:=hr.1;rw [gr]at this;omega
 have hXl:=qe lf
 have hXe:dv (sb iX)++lf=bI lf:=rfl
 generalize bI lf=X at *
 unfold uW
 refine aO (.agg (X.flatMap c8).toArray) (fun α=>⟨[⟨.string iX,0,[]⟩,⟨.slice A k e,1,lf.flatMap c8⟩],⟨aa,aa,aa,rfl,cast aa hKl,trivial⟩,.inr (.inr ⟨rfl,iX,_,lf,rfl,aj,hlfl,by rw [hXe]⟩),ap rfl⟩) (bg _) ?_
 refine QC (dK (bP X)) (fun α=>⟨[⟨(α 0).h,1,X.flatMap c8⟩],⟨Eq.trans (da (α 0).h 1 (X.flatMap c8)) aa,trivial⟩,.inl ⟨rfl,_,_,rfl,ab,rfl⟩,ap rfl⟩) ?_
 generalize bP X=D at *
 refine dM (fun v N=>∃ A2 n2 c2,v=.slice A2 n2 c2∧N=[⟨.slice A2 n2 c2,1,X.flatMap c8⟩]) al (fun α A2 n2 c2 _ _ _=>⟨A2,n2,c2,rfl,Eq.trans (b:=[⟨.slice A2 n2 c2,1,[Value.agg ([Value.agg (X.flatMap c8).toArray].flatMap ae).toArray].flatMap ae⟩]) aa (by simp [ae])⟩) ?_
 rintro _ _-⟨A2,n2,c2,rfl,rfl⟩
 refine mZ (fun xs N=>∃ (n1 i1 kk:Nat) (u:Value) (acc:List Dg) (d:Dg) (T:List dY),xs=[.int .i64 (n1:Int),.int .i64 (i1:Int),.int .i64 (kk:Int),u,.agg (bf (acc++[d])).toArray,.agg (T.flatMap aA).toArray]∧i1<n1∧acc.length+n1≤65537∧kk≤acc.length∧T.length=acc.length+1∧∃ R R1:List Rw,R.map (·.1)=acc++[d]∧eY n1 i1 d (p.drop kk)=some R1∧R++R1=(D,X)::R0∧CN N T R) (fun xs=>match xs with|.int _ i::_=>i.toNat|_=>0) al (fun α=>⟨[⟨.slice A2 n2 c2,1,X.flatMap c8⟩],(fun y hy=>List.mem_append_left _ hy),n,i,0,.slice A2 n2 c2,[],D,[(A2,n2,c2)],Eq.trans (b:=[.int .i64 (n:Int),.int .i64 (i:Int),.int .i64 ((0:Nat):Int),.slice A2 n2 c2,.agg ([dK D].flatMap ae).toArray,.agg ([Value.agg #[.slice A2 n2 c2]].flatMap ae).toArray]) aa (by simp [ae,bf,ao,dK,aA]),hi,aw,ai,rfl,[(D,X)],R0,rfl,hR0,rfl,CN.one (List.mem_singleton.2 rfl)⟩) ?_
 rintro xs N-⟨n1,i1,kk,u,acc,d,T,rfl,hi1,hac,hkk,hT,R,R1,hRa,hI,hRR,hF⟩
 have hxo:=CM i1
 have hKp:(((Ji w.heap.size (KW w) QW).plus ([⟨.slice A2 n2 c2,1,X.flatMap c8⟩]++(Ji w.heap.size (KW w) QW).N)).plus N).K (.slice B m c) 32 (bf p):=.inl (.inl fun W hW=>⟨hr.aJ hW,hc⟩)
 refine QF (.bool (decide (1<n1))) (eN n1 1) ?_
 refine QD (decide (1<n1)) (fun h1=>?_) (fun h1=>?_)
 ·have h1:1<n1:=af h1
  have hlast:(acc++[d])[acc.length]?=some d:=ai
  refine QC (.int .i64 (((acc++[d]).length:Nat):Int)) (fun α=>pr (f:=ao) (l:=acc++[d]) al aj (bz (j:=11) aa)) ?_
  refine QF (.int .i64 ((acc.length:Nat):Int)) (mF (a:=(acc++[d]).length) (b:=1) (d:=acc.length) ai aw) ?_
  refine QC (.bool true) (fun α=>iZ (f:=ao) (l:=acc++[d]) (k:=acc.length) al aj (bz (j:=11) aa) aa ai) ?_
  refine QC (dK d) (fun α=>lY (k:=acc.length) (f:=ao) (l:=acc++[d]) al aj (bz (j:=11) aa) aa hlast) ?_
  have hnb:¬ n1≤(i1^^^1)→∃ q0,p[kk]?=some q0∧kk<m∧p.drop kk=q0::p.drop (kk+1):=fun h2=>by
   rcases Nat.lt_or_ge kk p.length with h|h
   ·exact⟨p[kk],List.getElem?_eq_getElem h,ab,(List.getElem_cons_drop h).symm⟩
   rw [List.drop_eq_nil_of_le h,ma ab h2]at hI
   exact nomatch hI
  refine QF (.int .i64 ((i1 % 2:Nat):Int)) (oB (a:=i1) ab) ?_
  refine QB (.bool (((i1 % 2:Nat):Int) == 1)) ?_
  refine QD (((i1 % 2:Nat):Int) == 1) (fun h3=>?_) (fun h3=>?_)
  ·refine QF (.int .i64 ((i1 % 2:Nat):Int)) (oB (a:=i1) ab) ?_
   refine QB (.bool (((i1 % 2:Nat):Int) == 1)) ?_
   refine QD (((i1 % 2:Nat):Int) == 1) (fun _=>?_) (fun h=>absurd (h3.symm.trans h) aj)
   have h3:i1 % 2=1:=by simp at h3;omega
   rw [if_neg ab]at hxo
   have h2:¬ n1≤(i1^^^1):=ab
   obtain⟨q0,hq0,hkm,hpd⟩:=hnb h2
   rw [hpd]at hI
   refine QM B m c kk hB hkm ?_
   refine QN (f:=ao) (l:=p) (dK q0) B m c kk q0 hB hkm hKp hq0 ?_
   obtain⟨R2,hI2,rfl⟩:=ei ((jI ab h2 ab).symm.trans hI)
   refine aO (.agg ((gx q0 d).flatMap c8).toArray) (fun α=>⟨[⟨dK q0,0,[]⟩,⟨dK d,0,[]⟩],QQ,.inr (.inl ⟨rfl,q0,d,rfl,rfl⟩),ap rfl⟩) (bg _) ?_
   have hY:=j7 q0 d
   generalize gx q0 d=Y at *
   refine QC (dK (bP Y)) (fun α=>⟨[⟨(α 15).h,1,Y.flatMap c8⟩],⟨Eq.trans (da (α 15).h 1 (Y.flatMap c8)) aa,trivial⟩,.inl ⟨rfl,_,_,rfl,ab,rfl⟩,ap rfl⟩) ?_
   generalize bP Y=DY at *
   refine QC (.agg ([DY].flatMap ao).toArray) (fun α=>az (f:=ao) (l1:=acc++[d]) (l2:=[DY]) al bL aj (bz (j:=11) aa) (kf aa) aw aw) ?_
   refine dM (fun v N=>∃ A3 n3 c3,v=.slice A3 n3 c3∧N=[⟨.slice A3 n3 c3,1,Y.flatMap c8⟩]) al (fun α A3 n3 c3 _ _ _=>⟨A3,n3,c3,rfl,Eq.trans (b:=[⟨.slice A3 n3 c3,1,[Value.agg ([Value.agg (Y.flatMap c8).toArray].flatMap ae).toArray].flatMap ae⟩]) aa (by simp [ae])⟩) ?_
   rintro _ _-⟨A3,n3,c3,rfl,rfl⟩
   refine QC (.agg ([((A3,n3,c3):dY)].flatMap aA).toArray) (fun α=>az (f:=aA) (l1:=T) (l2:=[((A3,n3,c3):dY)]) al cB aj (bz (j:=12) aa) (kf aa) aw aw) ?_
   refine QF (.int .i64 ((kk+1:Nat):Int)) (cC (a:=kk) (b:=1) (d:=kk+1) rfl ab) ?_
   refine QF (.int .i64 ((n1+1:Nat):Int)) (cC (a:=n1) (b:=1) (d:=n1+1) rfl ab) ?_
   refine QF (.int .i64 (((n1+1) / 2:Nat):Int)) (cM (a:=n1+1) ab) ?_
   refine QF (.int .i64 ((i1 / 2:Nat):Int)) (cM (a:=i1) ab) ?_
   exact bO fun α=>⟨rfl,⟨.slice A3 n3 c3,1,Y.flatMap c8⟩::N,(fun y hy=>(List.mem_cons.1 hy).elim (fun h=>h▸List.mem_append_left _ (List.mem_singleton.2 rfl)) fun h=>List.mem_append_right _ h),⟨(n1+1) / 2,i1 / 2,kk+1,.slice A3 n3 c3,acc++[d],DY,T++[(A3,n3,c3)],Eq.trans (b:=[.int .i64 (((n1+1) / 2:Nat):Int),.int .i64 ((i1 / 2:Nat):Int),.int .i64 ((kk+1:Nat):Int),.slice A3 n3 c3,.agg ([Value.agg (bf (acc++[d])).toArray,.agg ([DY].flatMap ao).toArray].flatMap ae).toArray,.agg ([Value.agg (T.flatMap aA).toArray,.agg ([(A3,n3,c3)].flatMap aA).toArray].flatMap ae).toArray]) aa (by simp [ae,bf]),ab,aw,aw,by simp [hT],R++[(DY,Y)],R2,by simp [hRa],hI2,by rw [← hRR];simp,(hF.mono fun y hy=>List.mem_cons_of_mem _ hy).snoc (.inl (List.mem_cons_self ..))⟩,cast aa (show(((n1+1) / 2:Nat):Int).toNat<(n1:Int).toNat by omega)⟩
  have h3':i1 % 2=0:=by simp at h3;omega
  rw [if_pos h3']at hxo
  refine QF (.int .i64 ((i1+1:Nat):Int)) (cC (a:=i1) (b:=1) (d:=i1+1) rfl ab) ?_
  refine QF (.bool (decide (i1+1<n1))) (dD (i1+1) n1) ?_
  refine QD (decide (i1+1<n1)) (fun h4=>?_) (fun h4=>?_)
  ·have h4:i1+1<n1:=af h4
   refine QF (.int .i64 ((i1 % 2:Nat):Int)) (oB (a:=i1) ab) ?_
   refine QB (.bool (((i1 % 2:Nat):Int) == 1)) ?_
   refine QD (((i1 % 2:Nat):Int) == 1) (fun h=>absurd (h3.symm.trans h) aj) (fun _=>?_)
   have h2:¬ n1≤(i1^^^1):=ab
   obtain⟨q0,hq0,hkm,hpd⟩:=hnb h2
   rw [hpd]at hI
   refine QM B m c kk hB hkm ?_
   refine QN (f:=ao) (l:=p) (dK q0) B m c kk q0 hB hkm hKp hq0 ?_
   obtain⟨R2,hI2,rfl⟩:=ei ((ic ab h2 ab).symm.trans hI)
   refine aO (.agg ((gx d q0).flatMap c8).toArray) (fun α=>⟨[⟨dK d,0,[]⟩,⟨dK q0,0,[]⟩],QQ,.inr (.inl ⟨rfl,d,q0,rfl,rfl⟩),ap rfl⟩) (bg _) ?_
   have hY:=j7 d q0
   generalize gx d q0=Y at *
   refine QC (dK (bP Y)) (fun α=>⟨[⟨(α 15).h,1,Y.flatMap c8⟩],⟨Eq.trans (da (α 15).h 1 (Y.flatMap c8)) aa,trivial⟩,.inl ⟨rfl,_,_,rfl,ab,rfl⟩,ap rfl⟩) ?_
   generalize bP Y=DY at *
   refine QC (.agg ([DY].flatMap ao).toArray) (fun α=>az (f:=ao) (l1:=acc++[d]) (l2:=[DY]) al bL aj (bz (j:=11) aa) (kf aa) aw aw) ?_
   refine dM (fun v N=>∃ A3 n3 c3,v=.slice A3 n3 c3∧N=[⟨.slice A3 n3 c3,1,Y.flatMap c8⟩]) al (fun α A3 n3 c3 _ _ _=>⟨A3,n3,c3,rfl,Eq.trans (b:=[⟨.slice A3 n3 c3,1,[Value.agg ([Value.agg (Y.flatMap c8).toArray].flatMap ae).toArray].flatMap ae⟩]) aa (by simp [ae])⟩) ?_
   rintro _ _-⟨A3,n3,c3,rfl,rfl⟩
   refine QC (.agg ([((A3,n3,c3):dY)].flatMap aA).toArray) (fun α=>az (f:=aA) (l1:=T) (l2:=[((A3,n3,c3):dY)]) al cB aj (bz (j:=12) aa) (kf aa) aw aw) ?_
   refine QF (.int .i64 ((kk+1:Nat):Int)) (cC (a:=kk) (b:=1) (d:=kk+1) rfl ab) ?_
   refine QF (.int .i64 ((n1+1:Nat):Int)) (cC (a:=n1) (b:=1) (d:=n1+1) rfl ab) ?_
   refine QF (.int .i64 (((n1+1) / 2:Nat):Int)) (cM (a:=n1+1) ab) ?_
   refine QF (.int .i64 ((i1 / 2:Nat):Int)) (cM (a:=i1) ab) ?_
   exact bO fun α=>⟨rfl,⟨.slice A3 n3 c3,1,Y.flatMap c8⟩::N,(fun y hy=>(List.mem_cons.1 hy).elim (fun h=>h▸List.mem_append_left _ (List.mem_singleton.2 rfl)) fun h=>List.mem_append_right _ h),⟨(n1+1) / 2,i1 / 2,kk+1,.slice A3 n3 c3,acc++[d],DY,T++[(A3,n3,c3)],Eq.trans (b:=[.int .i64 (((n1+1) / 2:Nat):Int),.int .i64 ((i1 / 2:Nat):Int),.int .i64 ((kk+1:Nat):Int),.slice A3 n3 c3,.agg ([Value.agg (bf (acc++[d])).toArray,.agg ([DY].flatMap ao).toArray].flatMap ae).toArray,.agg ([Value.agg (T.flatMap aA).toArray,.agg ([(A3,n3,c3)].flatMap aA).toArray].flatMap ae).toArray]) aa (by simp [ae,bf]),ab,aw,aw,by simp [hT],R++[(DY,Y)],R2,by simp [hRa],hI2,by rw [← hRR];simp,(hF.mono fun y hy=>List.mem_cons_of_mem _ hy).snoc (.inl (List.mem_cons_self ..))⟩,cast aa (show(((n1+1) / 2:Nat):Int).toNat<(n1:Int).toNat by omega)⟩
  have h4:¬ i1+1<n1:=af h4
  obtain⟨R2,hI2,rfl⟩:=ei ((ib ab ab).symm.trans hI)
  refine QC (.agg ([d].flatMap ao).toArray) (fun α=>az (f:=ao) (l1:=acc++[d]) (l2:=[d]) al bL aj (bz (j:=11) aa) (kf aa) aw aw) ?_
  refine QC (.agg ([((none,0,0):dY)].flatMap aA).toArray) (fun α=>az (f:=aA) (l1:=T) (l2:=[((none,0,0):dY)]) al cB aj (bz (j:=12) aa) (kf aa) aw aw) ?_
  refine QF (.int .i64 ((n1+1:Nat):Int)) (cC (a:=n1) (b:=1) (d:=n1+1) rfl ab) ?_
  refine QF (.int .i64 (((n1+1) / 2:Nat):Int)) (cM (a:=n1+1) ab) ?_
  refine QF (.int .i64 ((i1 / 2:Nat):Int)) (cM (a:=i1) ab) ?_
  exact bO fun α=>⟨rfl,N,(fun y hy=>hy),⟨(n1+1) / 2,i1 / 2,kk,u,acc++[d],d,T++[(none,0,0)],Eq.trans (b:=[.int .i64 (((n1+1) / 2:Nat):Int),.int .i64 ((i1 / 2:Nat):Int),.int .i64 (kk:Int),u,.agg ([Value.agg (bf (acc++[d])).toArray,.agg ([d].flatMap ao).toArray].flatMap ae).toArray,.agg ([Value.agg (T.flatMap aA).toArray,.agg ([(none,0,0)].flatMap aA).toArray].flatMap ae).toArray]) aa (by simp [ae,bf]),ab,aw,aw,by simp [hT],R++[(d,[])],R2,by simp [hRa],hI2,by rw [← hRR];simp,hF.snoc (.inr ⟨rfl,rfl⟩)⟩,cast aa (show(((n1+1) / 2:Nat):Int).toNat<(n1:Int).toNat by omega)⟩
 have h1:¬ 1<n1:=af h1
 rw [mb ab]at hI
 split at hI
 ·injection hI with hI
  subst hI
  rw [List.append_nil]at hRR
  subst hRR
  refine aK fun α W _ hrow hS=>⟨hS.below,_,_,T,aa,by have:=congrArg List.length hRa;simp at this ⊢;omega,aH.row hS (n:=7) (b:=(⟨[(.x 11 [])],27,(.row 32)⟩:ak)) aa rfl (hrow 7 _ aa) (Eq.trans (b:=[Value.agg (bf (acc++[d])).toArray].flatMap ae) aa (by simp [ae,hRa])),aH.row hS (n:=8) (b:=(⟨[(.x 12 [])],46,(.row 1)⟩:ak)) aa rfl (hrow 8 _ aa) (Eq.trans (b:=[Value.agg (T.flatMap aA).toArray].flatMap ae) aa (by simp [ae])),fun j h r hj hr=>?_⟩
  rcases hF.2 j h r hj hr with hy|⟨rfl,hr0⟩
  ·have hN2:=hS.fact (p:=SX.NF _) (List.mem_append.2 (.inr (List.mem_cons_of_mem _ (List.mem_cons_self ..)))) _ hy
   exact⟨⟨h.1,h.2.1,h.2.2,rfl,hN2.1.2⟩,hN2.1,.inl hN2.2⟩
  rw [hr0]
  exact⟨⟨none,0,0,rfl,Nat.le_refl _⟩,⟨Rd.none_,Nat.le_refl _⟩,.inl fun ad n c e=>nomatch e⟩
 exact nomatch hI
def iS:List Rw→List Rw→Option (List W8×List W8)
 | x::R,y::S=>if cr x.1=cr y.1 then some (x.2,y.2)else iS R S
 | _,_=>none
theorem qF{R S:List Rw}{k:Nat}{x y:Rw}(hx:R[k]?=some x)(hy:S[k]?=some y):iS (R.drop k) (S.drop k)=if cr x.1=cr y.1 then some (x.2,y.2)else iS (R.drop (k+1)) (S.drop (k+1)):=by
 obtain⟨h1,e1⟩:=List.getElem?_eq_some_iff.1 hx
 obtain⟨h2,e2⟩:=List.getElem?_eq_some_iff.1 hy
 rw [← List.getElem_cons_drop h1,← List.getElem_cons_drop h2,e1,e2,iS]
theorem tJ{R S:List Rw}{k:Nat}(hk:R.length≤k):iS (R.drop k) (S.drop k)=none:=by
 rw [List.drop_eq_nil_of_le hk]
 rfl
theorem od(n:Nat):∃ k,∀ (i:Nat)(d:Dg)(p:List Dg)(R:List Rw),eY n i d p=some R→R.length=k:=by
 induction n using Nat.strongRecOn with
 | _ n ih =>
  by_cases h:n≤1
  ·refine⟨0,fun i d p R hR=>?_⟩
   rw [mb h]at hR
   split at hR
   ·injection hR with hR;subst hR;rfl
   exact nomatch hR
  obtain⟨k,hk⟩:=ih ((n+1) / 2) ab
  refine⟨k+1,fun i d p R hR=>?_⟩
  by_cases h2:n≤(i^^^1)
  ·obtain⟨R2,h3,rfl⟩:=ei ((ib h h2).symm.trans hR)
   rw [List.length_cons,hk _ _ _ _ h3]
  rcases p with _|⟨q,r⟩
  ·rw [ma h h2]at hR
   exact nomatch hR
  by_cases h3:i % 2=0
  ·obtain⟨R2,h4,rfl⟩:=ei ((ic h h2 h3).symm.trans hR)
   rw [List.length_cons,hk _ _ _ _ h4]
  obtain⟨R2,h4,rfl⟩:=ei ((jI h h2 h3).symm.trans hR)
  rw [List.length_cons,hk _ _ _ _ h4]
def vx(n i:Nat)(a b:List W8)(p q:List Dg):Option (List W8×List W8) :=
 match eY n i (bP (bI a)) p,eY n i (bP (bI b)) q with
 | some R,some S=>if cr (iv (bP (bI a)) R)=cr (iv (bP (bI b)) S)∧a≠b then iS ((bP (bI a),bI a)::R) ((bP (bI b),bI b)::S)else none
 | _,_=>none
def iO(w w':World)(o:Option (List W8×List W8))(e:Ending):Prop:=Below w.heap.size w w'∧∃ h1 h2:dY,e=.returned (.tuple #[gJ h1,gJ h2,.bool o.isSome])∧aH w w' [] (gJ h1) 1 ((o.getD ([],[])).1.flatMap c8)∧aH w w' [] (gJ h2) 1 ((o.getD ([],[])).2.flatMap c8)
theorem cH{w w':World}:aH w w' [] (gJ (none,0,0)) 1 []:=⟨⟨none,0,0,rfl,Nat.le_refl _⟩,⟨Rd.none_,Nat.le_refl _⟩,.inl fun ad n c e=>nomatch e⟩
def gN(h1 h2:Value)(T:List dY)(R:List Rw):List SX.Arg:=⟨h1,32,bf (R.map (·.1))⟩::⟨h2,1,T.flatMap aA⟩::(T.zip R).map fun z=>⟨gJ z.1,1,z.2.2.flatMap c8⟩
theorem oc{h1 h2:Value}{T:List dY}{R:List Rw}{j:Nat}{t:dY}{r:Rw}(ht:T[j]?=some t)(hr:R[j]?=some r):(⟨gJ t,1,r.2.flatMap c8⟩:SX.Arg)∈gN h1 h2 T R:=by
 refine List.mem_cons_of_mem _ (List.mem_cons_of_mem _ (List.mem_map.2 ⟨(t,r),?_,rfl⟩))
 exact List.mem_of_getElem? (i:=j) (by rw [List.getElem?_zip_eq_some];exact⟨ht,hr⟩)
def ON(g:FuncId)(K:QV)(f:FuncId)(xs:List SX.Arg)(v:Value):Prop:=f=g∧bn K∧∃ (n i:Nat) (u u2:Value) (X:List W8) (p:List Dg),xs=[⟨.int .i64 (n:Int),0,[]⟩,⟨.int .i64 (i:Int),0,[]⟩,⟨u,1,X.flatMap c8⟩,⟨u2,32,bf p⟩]∧i<n∧n≤65536∧X≠[]∧X.length≤17592186044416∧v=il (bc n i (bP (bI X)) p)
def PV(g:FuncId)(sh:Value→Value→Value)(K:QV)(f:FuncId)(xs:List SX.Arg)(Q:Value→List SX.Arg→Prop):Prop:=f=g∧bn K∧∃ (n i:Nat) (u u2:Value) (X:List W8) (p:List Dg) (R:List Rw),xs=[⟨.int .i64 (n:Int),0,[]⟩,⟨.int .i64 (i:Int),0,[]⟩,⟨u,1,X.flatMap c8⟩,⟨u2,32,bf p⟩]∧i<n∧n≤65536∧X≠[]∧X.length≤17592186044416∧eY n i (bP (bI X)) p=some R∧∀ (a:Addr) (c:Nat) (a':Addr) (c':Nat) (T:List dY),T.length=R.length+1→Q (sh (.slice (some a) (R.length+1) c) (.slice (some a') (R.length+1) c')) (gN (.slice (some a) (R.length+1) c) (.slice (some a') (R.length+1) c') T ((bP (bI X),bI X)::R))
theorem u7{W w':World}{R:List Rw}{x:Rw}{e:Ending}{sh:Value→Value→Value}{sp:SX.Sh}{Q:Value→List SX.Arg→Prop}(h:zx W w' (x::R) e sh)(hsp:∀ A n c A' n' c',sp.fit (sh (.slice A n c) (.slice A' n' c'))=true)(hQ:∀ (a:Addr)(c:Nat)(a':Addr)(c':Nat)(T:List dY),T.length=R.length+1→Q (sh (.slice (some a) (R.length+1) c) (.slice (some a') (R.length+1) c')) (gN (.slice (some a) (R.length+1) c) (.slice (some a') (R.length+1) c') T (x::R))):Below W.heap.size W w'∧∃ v N,e=.returned v∧sp.fit v=true∧Q v N∧∀ y∈N,y.rd w'∧fV W.heap.size y.v:=by
 obtain⟨hb,h1,h2,T,he,hT,⟨⟨A,n,c,rfl,_⟩,g1,g2⟩,⟨⟨A',n',c',rfl,_⟩,g3,g4⟩,hz⟩:=h
 have r1:Rd w' 32 A n (bf ((x::R).map (·.1))):=g1.1
 have r2:Rd w' 1 A' n' (T.flatMap aA):=g3.1
 have e1:=r1.1
 have e2:=r2.1
 have e3:(T.flatMap aA).length=T.length*1:=SX.aL (f:=aA) al T
 rw [gr,List.length_map]at e1
 rw [List.length_cons]at e1 hT
 obtain rfl:n=R.length+1:=ab
 obtain rfl:n'=R.length+1:=ab
 obtain⟨a,rfl,_⟩:=r1.2 ab
 obtain⟨a',rfl,_⟩:=r2.2 ab
 refine⟨hb,_,_,he,hsp _ _ _ _ _ _,hQ a c a' c' T hT,fun y hy=>?_⟩
 rcases List.mem_cons.1 hy with rfl|hy
 ·exact⟨g1,g2.resolve_right fun⟨y,hy,_⟩=>nomatch hy⟩
 rcases List.mem_cons.1 hy with rfl|hy
 ·exact⟨g3,g4.resolve_right fun⟨y,hy,_⟩=>nomatch hy⟩
 obtain⟨z,hzm,rfl⟩:=List.mem_map.1 hy
 obtain⟨j,hj⟩:=List.mem_iff_getElem?.1 hzm
 rw [List.getElem?_zip_eq_some]at hj
 obtain⟨_,g5,g6⟩:=hz j _ _ hj.1 hj.2
 exact⟨g5,g6.resolve_right fun⟨y,hy,_⟩=>nomatch hy⟩
theorem BF(n:Nat):n≤65536→∀ z,(∀ (i:Nat)(d:Dg)(p:List Dg)(R:List Rw),eY n i d p=some R→R.length=z)→∀ {i d p R},eY n i d p=some R→z≤65536:=by
 intro hn z hz i d p R h
 have key:∀ (n i:Nat) (d:Dg) (p:List Dg) (R:List Rw),eY n i d p=some R→R.length≤n:=by
  intro n
  induction n using Nat.strongRecOn with
  | _ n ih =>
   intro i d p R hR
   by_cases h:n≤1
   ·rw [mb h]at hR
    split at hR
    ·injection hR with hR;subst hR;exact Nat.zero_le _
    exact nomatch hR
   by_cases h2:n≤(i^^^1)
   ·obtain⟨R2,h3,rfl⟩:=ei ((ib h h2).symm.trans hR)
    have:=ih _ ab _ _ _ _ h3
    rw [List.length_cons];omega
   rcases p with _|⟨q,r⟩
   ·rw [ma h h2]at hR
    exact nomatch hR
   by_cases h3:i % 2=0
   ·obtain⟨R2,h4,rfl⟩:=ei ((ic h h2 h3).symm.trans hR)
    have:=ih _ ab _ _ _ _ h4
    rw [List.length_cons];omega
   obtain⟨R2,h4,rfl⟩:=ei ((jI h h2 h3).symm.trans hR)
   have:=ih _ ab _ _ _ _ h4
   rw [List.length_cons];omega
 rw [← hz _ _ _ _ h]
 exact Nat.le_trans (key _ _ _ _ _ h) hn
namespace SX
theorem fz{P:Program}{b:Frame}{a:Act}{k:List Item}{cs:List Frame}{w:World}{c:Code}:step P (lone (b.atR a (.code (.scope c)::k)) cs w)=.next (lone (b.atR a (.code c::.inScope c::k)) cs w):=step_lone_go (by simp [stepG,stepG.exec,Frame.atR])
theorem tj{P:Program}{b:Frame}{a:Act}{k:List Item}{cs:List Frame}{w:World}{c:Code}:step P (lone (b.atR a (.inScope c::k)) cs w)=.next (lone (b.atR a k) cs w):=step_lone_go (by simp [stepG,stepG.exec,Frame.atR])
theorem Fi{r:Option Nat}{P:Program}{c:Code}{Q:Exit→Act→World→Prop}{a:Act}{w:World}(h:jd r P c (Exit.noGoto Q) a w):jd r P (.scope c) Q a w:=by
 intro b k cs hro hb hr
 have h0:(lone (b.atR a (.code (.scope c)::k)) cs w).fenced P (FW r):=fenced_calm hb hr rfl
 obtain⟨e,a₁,w₁,hq,harr⟩:=h b (.inScope c::k) cs hro hb hr
 cases e with
 | normal=>exact⟨.normal,a₁,w₁,hq,.head h0 fz (StepsIn.trans harr (.one (fenced_calm hb hr rfl) tj))⟩
 | exit id =>
  have hx:exitTo id (.inScope c::k)=exitTo id k:=by simp [exitTo]
  exact⟨_,a₁,w₁,hq,fun k' hk=>.head h0 fz (harr.1 k' (by rw [hx];exact hk)),fun hr' hk=>let ⟨k₁,h1,h2⟩:=harr.2 hr' (by rw [hx];exact hk);⟨k₁,h1,.head h0 fz h2⟩⟩
 | goto l=>exact hq.elim
 | ret=>exact⟨_,a₁,w₁,hq,.of_steps (.one h0 fz) harr⟩
 | panic ch=>exact⟨_,a₁,w₁,hq,.of_steps (.one h0 fz) harr⟩
 | outgrown=>exact⟨_,a₁,w₁,hq,.of_steps (.one h0 fz) harr⟩
theorem zg{C:Cx}{G:kp}{R:Ending→World→Prop}{f:FuncId}{fn:Func}{body:Code}{args:List V}{sh:List Sh}{ρ:List Value}{w:World}{tmps:Array Value}(n:Nat)(t:Tree)(hC:C.Ok)(ht:(run C G n 0 (door f fn args sh) [.code body,.top fn]).eS=t)
 (hd:qI fn args sh=true) (hfit:Sh.dL sh ρ=true) (htm:(ah ρ (fun _=>default) args).toArray++Array.replicate (fn.ntmps-(ah ρ (fun _=>default) args).toArray.size) undef=tmps) (hK:∀ W',bp [] w W'→Kf C W') (hv:VC C ⟨w,[],Af C,Bf C⟩ [Kf C] [] R [] ρ t) (hN:C.N=[]∧C.nb≤w.heap.size:=by exact⟨rfl,Nat.zero_le _⟩) (hla:C.la=true→Bf C C.nb:=by exact fun h=>nomatch (show false=true from h)):jd none C.P body (dT C.P fn R) { tmps:=tmps,defers:=[] } w:=by
 subst ht
 subst htm
 replace hv:=dZ _ _ _ hv
 simp only [qI,Bool.and_eq_true,decide_eq_true_eq]at hd
 obtain⟨hl,hg⟩:=kJ hfit
 have hI:Inv ⟨w,[],Af C,Bf C⟩ [Kf C] [] ρ (door f fn args sh) { tmps:=(ah ρ (fun _=>default) args).toArray++Array.replicate (fn.ntmps-(ah ρ (fun _=>default) args).toArray.size) undef,defers:=[] } w:=by
  refine⟨fun _=>default,⟨nofun,rfl⟩,⟨hl,hg,fun e he=>nomatch he⟩,⟨fun v hv'=>?_,fun f hf=>(nomatch hf),(fun b hb=>nomatch hb),(fun b hb=>nomatch hb)⟩,⟨by simp [door,aq],fun d v hd'=>?_⟩,trivial,?_,?_,?_⟩
  ·rcases List.mem_append.1 hv' with h|h
   ·obtain⟨u,hu,e⟩:=List.mem_map.1 h
    obtain rfl:u=v:=af e
    rw [← hl]
    exact dF hd.2 u hu
   ·have:=List.eq_of_mem_replicate h
    cases this
    rfl
  ·rw [Array.getElem?_append]
   simp only [List.size_toArray,aq]
   simp only [door]at hd'
   by_cases hlt:d<args.length
   ·rw [List.getElem?_append_left (af hlt),List.getElem?_map,List.getElem?_eq_getElem hlt]at hd'
    simp only [Option.map_some,Option.some.injEq]at hd'
    rw [if_pos hlt]
    simpa using dC (ρ:=ρ) (α:=fun _=>default) (by rw [List.getElem?_eq_getElem hlt,hd'])
   rw [List.getElem?_append_right (af hlt),List.getElem?_replicate]at hd'
   rw [if_neg hlt,Array.getElem?_replicate]
   simp only [List.length_map]at hd'
   split at hd'
   ·rename_i h9
    rw [if_pos h9]
    cases hd'
    rfl
   cases hd'
  ·exact((⟨⟨rfl,rfl,rfl,Nat.le_refl _,fun _ _ _=>rfl⟩,(fun _ h=>nomatch h),(fun _ h=>nomatch h),(by simp [bk]),(fun _ h=>nomatch h)⟩:St ⟨w,[],Af C,Bf C⟩ [] [] [] w)).Kw hK
  ·exact fun n b h=>nomatch h
  exact fun n b h=>nomatch h
 have:=rV hC n ⟨w,[],Af C,Bf C⟩ [] R G 0 (door f fn args sh) [.code body,.top fn] [] [] [] ρ _ w (fun _=>⟨rfl,hla⟩) ⟨List.mem_cons_self ..,fun _ h=>h,fun _ h=>h,hN.2,.inl hN.1⟩ hv rfl rfl hI
 exact this
def CI:Code→Code
 | .seq _ (.scope c)=>c
 | c=>c
end SX
def N9:FuncId→Option SX.Sh:=fun f=>if f=65 then some (.tp [.ag 32,.one])else none
def Ns:FuncId→Option SX.Sh:=fun f=>if f=67 then some (.tp [.ag 2,.one])else none
noncomputable def vy(nb:Nat)(K A:QV):SX.Cx:={ nsh:=Ns,Rn:=PV 67 Kj,nb:=nb,P:=Tryz.prog,R:=ON 65,shp:=N9,K:=K,A:=A,trm:=true }
theorem Pz(nb:Nat)(K A:QV):(vy nb K A).Ok:=by
 refine SX.Cx.mo al (fun K f xs v W hR hrd hKf=>?_) fun f sh hs K xs Q W hR hrd hKf=>?_
 ·obtain⟨rfl,hL,n,i,u,u2,X,p,rfl,hi,hn,hX,hXl,rfl⟩:=hR
  obtain⟨A,a,e,rfl,h1,h2⟩:=bj (hrd ⟨u,1,X.flatMap c8⟩ ai)
  obtain⟨B,m,c,rfl,h3,h4⟩:=bj (hrd ⟨u2,32,bf p⟩ ai)
  exact(tH n i X p A a e B m c W hi hn h1 h2 hX hXl h3 h4 (bF hL hKf)).mono fun e w' h=>ay rfl h
 obtain⟨rfl,hL,n,i,u,u2,X,p,R,rfl,hi,hn,hX,hXl,hR,hQ⟩:=hR
 have hs:some (SX.Sh.tp [.ag 2,.one])=some sh:=hs
 cases hs
 obtain⟨A,a,e,rfl,h1,h2⟩:=bj (hrd ⟨u,1,X.flatMap c8⟩ ai)
 obtain⟨B,m,c,rfl,h3,h4⟩:=bj (hrd ⟨u2,32,bf p⟩ ai)
 exact(Kk n i X p R A a e B m c W hi hn h1 h2 hX hXl h3 h4 (bF hL hKf) hR).mono fun e w' h=>u7 h (fun _ _ _ _ _ _=>rfl) hQ
def mT:SX.Tree :=
(.df (.call 65 [.no,.no,(.ext 1),(.ext 32)]) (QK 0 3++[(.q 4)]) (.tp [(.ag 32),.one])
(.df (.call 65 [.no,.no,(.ext 1),(.ext 32)]) [(.q 0),(.q 1),(.q 3),(.q 5)] (.tp [(.ag 32),.one])
(.df (.bin .neq 32) [(.x 6 [1]),(.i 0)] .one
(.br 8 []
(.ret (.t [(.k (.slice none 0 0)),(.k (.slice none 0 0)),(.k (.bool false))]) [none,none] [])
(.df (.bin .neq 32) [(.x 7 [1]),(.i 0)] .one
(.br 9 []
(.ret (.t [(.k (.slice none 0 0)),(.k (.slice none 0 0)),(.k (.bool false))]) [none,none] [])
(.df (.eqr true 32 (QL 32 (.i .u8))) [(.x 6 [0,0]),(.x 6 [0,1]),(.x 6 [0,2]),(.x 6 [0,3]),(.x 6 [0,4]),(.x 6 [0,5]),(.x 6 [0,6]),(.x 6 [0,7]),(.x 6 [0,8]),(.x 6 [0,9]),(.x 6 [0,10]),(.x 6 [0,11]),(.x 6 [0,12]),(.x 6 [0,13]),(.x 6 [0,14]),(.x 6 [0,15]),(.x 6 [0,16]),(.x 6 [0,17]),(.x 6 [0,18]),(.x 6 [0,19]),(.x 6 [0,20]),(.x 6 [0,21]),(.x 6 [0,22]),(.x 6 [0,23]),(.x 6 [0,24]),(.x 6 [0,25]),(.x 6 [0,26]),(.x 6 [0,27]),(.x 6 [0,28]),(.x 6 [0,29]),(.x 6 [0,30]),(.x 6 [0,31]),(.x 7 [0,0]),(.x 7 [0,1]),(.x 7 [0,2]),(.x 7 [0,3]),(.x 7 [0,4]),(.x 7 [0,5]),(.x 7 [0,6]),(.x 7 [0,7]),(.x 7 [0,8]),(.x 7 [0,9]),(.x 7 [0,10]),(.x 7 [0,11]),(.x 7 [0,12]),(.x 7 [0,13]),(.x 7 [0,14]),(.x 7 [0,15]),(.x 7 [0,16]),(.x 7 [0,17]),(.x 7 [0,18]),(.x 7 [0,19]),(.x 7 [0,20]),(.x 7 [0,21]),(.x 7 [0,22]),(.x 7 [0,23]),(.x 7 [0,24]),(.x 7 [0,25]),(.x 7 [0,26]),(.x 7 [0,27]),(.x 7 [0,28]),(.x 7 [0,29]),(.x 7 [0,30]),(.x 7 [0,31])] .one
(.br 10 []
(.ret (.t [(.k (.slice none 0 0)),(.k (.slice none 0 0)),(.k (.bool false))]) [none,none] [])
(.df .b2sx [(.q 2)] .one
(.df .b2sx [(.q 3)] .one
(.df (.bin .eql 9) [(.q 11),(.q 12)] .one
(.br 13 []
(.ret (.t [(.k (.slice none 0 0)),(.k (.slice none 0 0)),(.k (.bool false))]) [none,none] [])
(.df (.callq 67 [.no,.no,(.ext 1),(.ext 32)]) (QK 0 3++[(.q 4)]) (.tp [(.ag 2),.one])
(.df (.callq 67 [.no,.no,(.ext 1),(.ext 32)]) [(.q 0),(.q 1),(.q 3),(.q 5)] (.tp [(.ag 2),.one])
(.df (.len false) [(.x 14 [0,0])] .one
(.loop [(.i 0)] [.one]
(.df (.bin .lss 3) [(.q 17),(.q 16)] .one
(.br 18 []
(.df .bnd [(.x 14 [0,0]),(.q 17)] .one
(.df (.elems 32 0 32) [(.x 14 [0,0]),(.q 17)] (.ag 32)
(.df .bnd [(.x 15 [0,0]),(.q 17)] .one
(.df (.elems 32 0 32) [(.x 15 [0,0]),(.q 17)] (.ag 32)
(.df (.eqr true 32 (QL 32 (.i .u8))) (QJ 20 0 32++QJ 22 0 32) .one
(.br 23 []
(.df (.bin .add 3) [(.q 17),(.i 1)] .one
(.again 0 [(.q 24)]))
(.df .bnd [(.x 14 [0,1]),(.q 17)] .one
(.df (.elem 1 0) [(.x 14 [0,1]),(.q 17)] .one
(.df .bnd [(.x 15 [0,1]),(.q 17)] .one
(.df (.elem 1 0) [(.x 15 [0,1]),(.q 17)] .one
(.ret (.t [(.q 25),(.q 27),(.k (.bool true))]) [none,none,none,none,none] [])))))))))))
(.ret (.t [(.k (.slice none 0 0)),(.k (.slice none 0 0)),(.k (.bool false))]) [none,none,none,none,none] [])))))))))))))))))))
def qx:List SX.V:=[.x 0 [],.x 1 [],.x 2 [],.x 3 [],.x 4 [],.x 5 []]++List.replicate 6 (.k undef)++[.k (.slice none 0 0),.k (.slice none 0 0),.k (.bool false)]
def tF:kp:=⟨fun f=>f != 67,[⟨33,8,[(.s 75,.one)]⟩],12,100⟩
theorem EM(nb:Nat)(K A:QV):(SX.run (vy nb K A) tF 100000 0 (SX.door 33 Tryz.f33 qx [.one,.one,.one,.one,.one,.one]) [.code (CI (Tryz.f33.body.getD .skip)),.top Tryz.f33]).eS=mT:=aa
set_option maxRecDepth 1000000 in
theorem Dm(x0 x1 x2 x3 x4 x5:Value)(w:World)(Q:Exit→Act→World→Prop)(h:jd none Tryz.prog (CI (Tryz.f33.body.getD .skip)) (Exit.noGoto Q) { tmps:=[x0,x1,x2,x3,x4,x5,undef,undef,undef,undef,undef,undef,.slice none 0 0,.slice none 0 0,.bool false].toArray++Array.replicate 85 undef,defers:=[] } w):jd none Tryz.prog (Tryz.f33.body.getD .skip) Q { tmps:=#[x0,x1,x2,x3,x4,x5]++Array.replicate 94 undef,defers:=[] } w:=by
 unfold Tryz.f33
 refine CL (sP (jJ aa (dt nofun (bi (u:=.slice none 0 0) rfl ?_))))
 refine jJ aa (dt nofun (bi (u:=.slice none 0 0) rfl ?_))
 refine jJ aa (dt nofun (bi (u:=.bool false) rfl (II ?_)))
 exact Fi (cast aa h)
theorem FR(n i:Nat)(a b:List W8)(p q:List Dg)(A:Option Addr)(k e:Nat)(A':Option Addr)(k' e':Nat)(B:Option Addr)(m c:Nat)(B':Option Addr)(m' c':Nat)(w:World)(hi:i<n)(hn:n≤65536)(hra:Rd w 1 A k (a.flatMap c8))(hca:k≤e)(ha:a≠[])(hal:a.length≤17592186044416)(hrb:Rd w 1 A' k' (b.flatMap c8))(hcb:k'≤e')(hb:b≠[])(hbl:b.length≤17592186044416)(hrp:Rd w 32 B m (bf p))(hcp:m≤c)(hrq:Rd w 32 B' m' (bf q))(hcq:m'≤c')(hlaid:Laid w):Calls Tryz.prog 33 #[.int .i64 (n:Int),.int .i64 (i:Int),.slice A k e,.slice A' k' e',.slice B m c,.slice B' m' c'] w fun e w'=>iO w w' (vx n i a b p q) e:=by
 refine cY (c:=Tryz.f33.body.getD .skip) Tryz.func33 aa (cast aa (Dm (.int .i64 (n:Int)) (.int .i64 (i:Int)) (.slice A k e) (.slice A' k' e') (.slice B m c) (.slice B' m' c') w (dT Tryz.prog Tryz.f33 fun e w'=>iO w w' (vx n i a b p q) e) (lA (Q:=dT Tryz.prog Tryz.f33 fun e w'=>iO w w' (vx n i a b p q) e) ?_ fun e a' w' h=>by cases e<;>exact h)))
 refine zg (C:=vy w.heap.size (KW w) QW) (G:=tF) (args:=qx) (sh:=[.one,.one,.one,.one,.one,.one]) (ρ:=[.int .i64 (n:Int),.int .i64 (i:Int),.slice A k e,.slice A' k' e',.slice B m c,.slice B' m' c']) 100000 mT (Pz _ _ _) (EM _ _ _) aa aa aa ?_ ?_ ⟨rfl,Nat.le_refl _⟩
 ·exact fun W hW v z xs h=>h W hW
 have hKa:KW w (.slice A k e) 1 (a.flatMap c8):=fun W hW=>⟨hra.aJ hW,hca⟩
 have hKb:KW w (.slice A' k' e') 1 (b.flatMap c8):=fun W hW=>⟨hrb.aJ hW,hcb⟩
 have hKp:KW w (.slice B m c) 32 (bf p):=fun W hW=>⟨hrp.aJ hW,hcp⟩
 have hKq:KW w (.slice B' m' c') 32 (bf q):=fun W hW=>⟨hrq.aJ hW,hcq⟩
 have hL:bn (KW w):=dj hlaid
 unfold mT
 refine aO (il (bc n i (bP (bI a)) p)) (fun α=>⟨[⟨.int .i64 (n:Int),0,[]⟩,⟨.int .i64 (i:Int),0,[]⟩,⟨.slice A k e,1,a.flatMap c8⟩,⟨.slice B m c,32,bf p⟩],⟨aa,aa,aa,aa,rfl,rfl,cast aa hKa,rfl,rfl,cast aa hKp,trivial⟩,⟨rfl,hL,n,i,_,_,a,p,rfl,hi,hn,ha,hal,rfl⟩,ap rfl⟩) (by cases bc n i (bP (bI a)) p<;>rfl) ?_
 refine aO (il (bc n i (bP (bI b)) q)) (fun α=>⟨[⟨.int .i64 (n:Int),0,[]⟩,⟨.int .i64 (i:Int),0,[]⟩,⟨.slice A' k' e',1,b.flatMap c8⟩,⟨.slice B' m' c',32,bf q⟩],⟨aa,aa,aa,aa,rfl,rfl,cast aa hKb,rfl,rfl,cast aa hKq,trivial⟩,⟨rfl,hL,n,i,_,_,b,q,rfl,hi,hn,hb,hbl,rfl⟩,ap rfl⟩) (by cases bc n i (bP (bI b)) q<;>rfl) ?_
 rw [jo,jo]
 unfold vx
 cases h1:eY n i (bP (bI a)) p with
 | none =>
  refine QB (.bool true) ?_
  refine QD true (fun _=>?_) (fun h=>nomatch h)
  exact aK fun α W _ _ hS=>⟨hS.below,(none,0,0),(none,0,0),aa,cH,cH⟩
 | some R =>
 refine QB (.bool false) ?_
 refine QD false (fun h=>nomatch h) (fun _=>?_)
 cases h2:eY n i (bP (bI b)) q with
 | none =>
  refine QB (.bool true) ?_
  refine QD true (fun _=>?_) (fun h=>nomatch h)
  exact aK fun α W _ _ hS=>⟨hS.below,(none,0,0),(none,0,0),aa,cH,cH⟩
 | some S =>
 refine QB (.bool false) ?_
 refine QD false (fun h=>nomatch h) (fun _=>?_)
 have hRS:R.length=S.length:=by
  obtain⟨z,hz⟩:=od n
  rw [hz _ _ _ _ h1,hz _ _ _ _ h2]
 simp only []
 generalize hdA:iv (bP (bI a)) R=dA at *
 generalize hdB:iv (bP (bI b)) S=dB at *
 refine QC (.bool (true ^^ decide (cr dA=cr dB))) (fun α=>fH (f:=(fun l:List W8=>l.map w8)) gp (y:=cr dA) (z:=cr dB) aa aa aa) ?_
 refine QD (true ^^ decide (cr dA=cr dB)) (fun h3=>?_) (fun h3=>?_)
 ·have h3:¬ cr dA=cr dB:=af h3
  rw [if_neg fun h=>h3 h.1]
  exact aK fun α W _ _ hS=>⟨hS.below,(none,0,0),(none,0,0),aa,cH,cH⟩
 have h3:cr dA=cr dB:=af h3
 refine QC (.string (bt a)) (fun α=>⟨(bt a).data.toList,A,k,e,cast (by rw [th,fw];kernel_rfl) hKa,aa,ai⟩) ?_
 refine QC (.string (bt b)) (fun α=>⟨(bt b).data.toList,A',k',e',cast (by rw [th,fw];kernel_rfl) hKb,aa,ai⟩) ?_
 refine QB (.bool (decide (bt a=bt b))) ?_
 refine QD (decide (bt a=bt b)) (fun h4=>?_) (fun h4=>?_)
 ·have h4:a=b:=by rw [← fw a,of_decide_eq_true h4,fw]
  rw [if_neg fun h=>h.2 h4]
  exact aK fun α W _ _ hS=>⟨hS.below,(none,0,0),(none,0,0),aa,cH,cH⟩
 have h4:a≠b:=fun h=>of_decide_eq_false h4 (by rw [h])
 rw [if_pos ⟨h3,h4⟩]
 refine dM (fun v N=>∃ (x1:Addr) (x2:Nat) (x3:Addr) (x4:Nat) (T:List dY),v=Kj (.slice (some x1) (R.length+1) x2) (.slice (some x3) (R.length+1) x4)∧T.length=R.length+1∧N=gN (.slice (some x1) (R.length+1) x2) (.slice (some x3) (R.length+1) x4) T ((bP (bI a),bI a)::R)) al (fun α=>⟨[⟨.int .i64 (n:Int),0,[]⟩,⟨.int .i64 (i:Int),0,[]⟩,⟨.slice A k e,1,a.flatMap c8⟩,⟨.slice B m c,32,bf p⟩],⟨aa,aa,aa,aa,rfl,rfl,cast aa (hKa),rfl,rfl,cast aa (hKp),trivial⟩,rfl,hL,n,i,_,_,a,p,R,rfl,hi,hn,ha,hal,h1,fun x1 x2 x3 x4 T hT=>⟨x1,x2,x3,x4,T,rfl,hT,rfl⟩⟩) ?_
 rintro _ _-⟨s1,s2,s3,s4,Ts,rfl,hTs,rfl⟩
 have hKb1:((vy w.heap.size (KW w) QW).plus (gN (.slice (some s1) (R.length+1) s2) (.slice (some s3) (R.length+1) s4) Ts ((bP (bI a),bI a)::R)++(vy w.heap.size (KW w) QW).N)).K (.slice A' k' e') 1 (b.flatMap c8):=.inl hKb
 have hKq1:((vy w.heap.size (KW w) QW).plus (gN (.slice (some s1) (R.length+1) s2) (.slice (some s3) (R.length+1) s4) Ts ((bP (bI a),bI a)::R)++(vy w.heap.size (KW w) QW).N)).K (.slice B' m' c') 32 (bf q):=.inl hKq
 refine dM (fun v N=>∃ (x1:Addr) (x2:Nat) (x3:Addr) (x4:Nat) (T:List dY),v=Kj (.slice (some x1) (S.length+1) x2) (.slice (some x3) (S.length+1) x4)∧T.length=S.length+1∧N=gN (.slice (some x1) (S.length+1) x2) (.slice (some x3) (S.length+1) x4) T ((bP (bI b),bI b)::S)) al (fun α=>⟨[⟨.int .i64 (n:Int),0,[]⟩,⟨.int .i64 (i:Int),0,[]⟩,⟨.slice A' k' e',1,b.flatMap c8⟩,⟨.slice B' m' c',32,bf q⟩],⟨aa,aa,aa,aa,rfl,rfl,cast aa (hKb1),rfl,rfl,cast aa (hKq1),trivial⟩,rfl,jN hL,n,i,_,_,b,q,S,rfl,hi,hn,hb,hbl,h2,fun x1 x2 x3 x4 T hT=>⟨x1,x2,x3,x4,T,rfl,hT,rfl⟩⟩) ?_
 rintro _ _-⟨t1,t2,t3,t4,Tt,rfl,hTt,rfl⟩
 have hNs:∀ y∈gN (.slice (some s1) (R.length+1) s2) (.slice (some s3) (R.length+1) s4) Ts ((bP (bI a),bI a)::R),y∈(gN (.slice (some t1) (S.length+1) t2) (.slice (some t3) (S.length+1) t4) Tt ((bP (bI b),bI b)::S)++(gN (.slice (some s1) (R.length+1) s2) (.slice (some s3) (R.length+1) s4) Ts ((bP (bI a),bI a)::R)++(vy w.heap.size (KW w) QW).N)):=fun y hy=>List.mem_append_right _ (List.mem_append_left _ hy)
 have hNt:∀ y∈gN (.slice (some t1) (S.length+1) t2) (.slice (some t3) (S.length+1) t4) Tt ((bP (bI b),bI b)::S),y∈(gN (.slice (some t1) (S.length+1) t2) (.slice (some t3) (S.length+1) t4) Tt ((bP (bI b),bI b)::S)++(gN (.slice (some s1) (R.length+1) s2) (.slice (some s3) (R.length+1) s4) Ts ((bP (bI a),bI a)::R)++(vy w.heap.size (KW w) QW).N)):=fun y hy=>List.mem_append_left _ hy
 have m1:=hNs _ (List.mem_cons_self ..)
 have m2:=hNs _ (List.mem_cons_of_mem _ (List.mem_cons_self ..))
 have m3:=hNt _ (List.mem_cons_self ..)
 have m4:=hNt _ (List.mem_cons_of_mem _ (List.mem_cons_self ..))
 have hW1:=fun(j:Nat) (t:dY) (r:Rw) (h:Ts[j]?=some t) (h':((bP (bI a),bI a)::R)[j]?=some r)=>hNs _ (oc h h')
 have hW2:=fun(j:Nat) (t:dY) (r:Rw) (h:Tt[j]?=some t) (h':((bP (bI b),bI b)::S)[j]?=some r)=>hNt _ (oc h h')
 have hl1:((bP (bI a),bI a)::R).length=R.length+1:=rfl
 have hl2:((bP (bI b),bI b)::S).length=S.length+1:=rfl
 have hnR:R.length≤65536:=by
  obtain⟨z,hz⟩:=od n
  rw [hz _ _ _ _ h1]
  exact BF n hn z hz h1
 clear h1 h2 hdA hdB hNs hNt
 generalize ((bP (bI a),bI a)::R:List Rw)=R2 at *
 generalize ((bP (bI b),bI b)::S:List Rw)=S2 at *
 refine QB (.int .i64 ((R.length+1:Nat):Int)) ?_
 refine ck (fun xs=>∃ kk:Nat,xs=[.int .i64 (kk:Int)]∧kk≤R.length+1∧iS (R2.drop kk) (S2.drop kk)=iS R2 S2) (fun xs=>match xs with|.int _ j::_=>R.length+1-j.toNat|_=>0) (fun α=>⟨0,aa,ab,rfl⟩) ?_
 rintro xs-⟨kk,rfl,hkk,hI⟩
 refine QF (.bool (decide (kk<R.length+1))) (dD kk (R.length+1)) ?_
 refine QD (decide (kk<R.length+1)) (fun h5=>?_) (fun h5=>?_)
 ·have h5:kk<R.length+1:=af h5
  obtain⟨x,hx⟩:∃ x,R2[kk]?=some x:=⟨_,List.getElem?_eq_getElem ab⟩
  obtain⟨y,hy⟩:∃ y,S2[kk]?=some y:=⟨_,List.getElem?_eq_getElem ab⟩
  obtain⟨t,ht⟩:∃ t,Ts[kk]?=some t:=⟨_,List.getElem?_eq_getElem ab⟩
  obtain⟨u,hu⟩:∃ u,Tt[kk]?=some u:=⟨_,List.getElem?_eq_getElem ab⟩
  have hx1:(R2.map (·.1))[kk]?=some x.1:=by rw [List.getElem?_map,hx];rfl
  have hy1:(S2.map (·.1))[kk]?=some y.1:=by rw [List.getElem?_map,hy];rfl
  rw [qF hx hy]at hI
  refine QC (.bool true) (fun α=>cq (A:=some s1) (n:=R.length+1) (c:=s2) (j:=kk) al aa aa h5) ?_
  refine QN (f:=ao) (l:=R2.map (·.1)) (dK x.1) (some s1) (R.length+1) s2 kk x.1 al h5 (eR (xs:=(R2.map (·.1)).flatMap ao) m1) hx1 ?_
  refine QC (.bool true) (fun α=>cq (A:=some t1) (n:=S.length+1) (c:=t2) (j:=kk) al aa aa ab) ?_
  refine QN (f:=ao) (l:=S2.map (·.1)) (dK y.1) (some t1) (S.length+1) t2 kk y.1 al ab (eR (xs:=(S2.map (·.1)).flatMap ao) m3) hy1 ?_
  refine QC (.bool (true ^^ decide (cr x.1=cr y.1))) (fun α=>fH (f:=(fun l:List W8=>l.map w8)) gp (y:=cr x.1) (z:=cr y.1) aa aa aa) ?_
  have hng:∀ h6:¬ cr x.1=cr y.1,iS (R2.drop (kk+1)) (S2.drop (kk+1))=iS R2 S2:=fun h6=>by rw [← hI,if_neg h6]
  refine QD (true ^^ decide (cr x.1=cr y.1)) (fun h6=>?_) (fun h6=>?_)
  ·have h6:¬ cr x.1=cr y.1:=af h6
   refine QF (.int .i64 ((kk+1:Nat):Int)) (cC (a:=kk) (b:=1) (d:=kk+1) rfl ab) ?_
   exact bW rfl (fun α=>⟨kk+1,aa,ab,hng h6⟩) (fun α=>cast aa (show R.length+1-((kk+1:Nat):Int).toNat<R.length+1-(kk:Int).toNat by omega))
  have h6:cr x.1=cr y.1:=af h6
  rw [← hI,if_pos h6]
  refine QC (.bool true) (fun α=>cq (A:=some s3) (n:=R.length+1) (c:=s4) (j:=kk) al aa aa h5) ?_
  refine QC (gJ t) (fun α=>cS (o:=0) (v:=gJ t) (f:=aA) (l:=Ts) (A:=some s3) (n:=R.length+1) (c:=s4) (j:=kk) (z:=t) al al aa aa h5 (eR m2) ht aj aa) ?_
  refine QC (.bool true) (fun α=>cq (A:=some t3) (n:=S.length+1) (c:=t4) (j:=kk) al aa aa ab) ?_
  refine QC (gJ u) (fun α=>cS (o:=0) (v:=gJ u) (f:=aA) (l:=Tt) (A:=some t3) (n:=S.length+1) (c:=t4) (j:=kk) (z:=u) al al aa aa ab (eR m4) hu aj aa) ?_
  refine aK fun α W _ _ hS=>⟨hS.below,t,u,aa,?_,?_⟩
  ·have hN2:=hS.fact (p:=SX.NF _) (List.mem_append.2 (.inr (List.mem_cons_of_mem _ (List.mem_cons_self ..)))) _ (hW1 kk t x ht hx)
   exact⟨⟨t.1,t.2.1,t.2.2,rfl,hN2.1.2⟩,hN2.1,.inl hN2.2⟩
  have hN2:=hS.fact (p:=SX.NF _) (List.mem_append.2 (.inr (List.mem_cons_of_mem _ (List.mem_cons_self ..)))) _ (hW2 kk u y hu hy)
  exact⟨⟨u.1,u.2.1,u.2.2,rfl,hN2.1.2⟩,hN2.1,.inl hN2.2⟩
 have h5:¬ kk<R.length+1:=af h5
 rw [tJ ab]at hI
 rw [← hI]
 exact aK fun α W _ _ hS=>⟨hS.below,(none,0,0),(none,0,0),aa,cH,cH⟩
theorem Gx(a:Rw)(R:List Rw):((a::R).map (·.1))[R.length]?=some (iv a.1 R):=by
 induction R generalizing a with
 | nil=>rfl
 | cons b R ih=>rw [j4,← ih b];rfl
def Oa:FuncId→Option SX.Sh:=fun f=>if f=68 then some (.tp [.ag 32,.one])else if f=100 then some .one else none
def Nt:FuncId→Option SX.Sh:=fun f=>if f=69 then some (.tp [.one,.one])else none
def PS(f:FuncId)(xs:List SX.Arg)(v:Value):Prop:=f=100∧∃ n i:Nat,xs=[⟨.int .i64 (n:Int),0,[]⟩,⟨.int .i64 (i:Int),0,[]⟩]∧i<n∧n≤65536∧v=.int .i64 (mh n i:Int)
noncomputable def FV(nb:Nat)(K A:QV):SX.Cx:={ nsh:=Nt,Rn:=PV 69 y5,nb:=nb,P:=Tryz.prog,R:=fun _=>PS,shp:=Oa,K:=K,A:=A,trm:=true }
theorem KC(nb:Nat)(K A:QV):(FV nb K A).OH:=fun f sh hs K xs Q W hR hrd hKf=>by
 obtain⟨rfl,hL,n,i,u,u2,X,p,R,rfl,hi,hn,hX,hXl,hR,hQ⟩:=hR
 have hs:some (SX.Sh.tp [.one,.one])=some sh:=hs
 cases hs
 obtain⟨A,a,e,rfl,h1,h2⟩:=bj (hrd ⟨u,1,X.flatMap c8⟩ ai)
 obtain⟨B,m,c,rfl,h3,h4⟩:=bj (hrd ⟨u2,32,bf p⟩ ai)
 exact(H4 n i X p R A a e B m c W hi hn h1 h2 hXl h3 h4 hR).mono fun e w' h=>u7 h (fun _ _ _ _ _ _=>rfl) hQ
theorem NA(nb:Nat)(K A:QV):(FV nb K A).Ok:=by
 refine SX.Cx.mo al (fun K f xs v W hR hrd hKf=>?_) (KC nb K A)
 obtain⟨rfl,n,i,rfl,hi,hn,rfl⟩:=hR
 exact(yI n i W hi hn).mono fun e w' h=>ay rfl h
def pH:SX.Tree :=
(.df (.bin .gtr 3) [(.q 0),(.i 65536)] .one
(.br 4 []
(.ret (.t [(.a (QL 32 (.k (.int .u8 0)))),(.i 1)]) [none] [])
(.df (.bin .lss 3) [(.q 1),(.i 0)] .one
(.br 5 []
(.ret (.t [(.a (QL 32 (.k (.int .u8 0)))),(.i 1)]) [none] [])
(.df (.bin .geq 3) [(.q 1),(.q 0)] .one
(.br 6 []
(.ret (.t [(.a (QL 32 (.k (.int .u8 0)))),(.i 1)]) [none] [])
(.df (.len false) [(.q 3)] .one
(.df (.call 100 [.no,.no]) [(.q 0),(.q 1)] .one
(.df (.bin .neq 3) [(.q 7),(.q 8)] .one
(.br 9 []
(.ret (.t [(.a (QL 32 (.k (.int .u8 0)))),(.i 70)]) [none] [])
(.df (.callq 69 [.no,.no,(.ext 1),(.ext 32)]) (QK 0 4) (.tp [.one,.one])
(.df (.len false) [(.x 10 [0])] .one
(.df (.bin .sub 3) [(.q 11),(.i 1)] .one
(.df .bnd [(.x 10 [0]),(.q 12)] .one
(.df (.elems 32 0 32) [(.x 10 [0]),(.q 12)] (.ag 32)
(.ret (.t [(.a (QJ 14 0 32)),(.i 0)]) [none] []))))))))))))))))
def xx:List SX.V:=[.x 0 [],.x 1 [],.x 2 [],.x 3 []]
def z1:kp:=⟨fun f=>f != 69,[],12,100⟩
theorem Bn(nb:Nat)(K A:QV):QU (FV nb K A) z1 68 Tryz.f68 xx [.one,.one,.one,.one]=pH:=aa
theorem rL(n i:Nat)(a:List W8)(p:List Dg)(A:Option Addr)(k e:Nat)(B:Option Addr)(m c:Nat)(w:World)(hi:i<n)(hn:n≤65536)(hra:Rd w 1 A k (a.flatMap c8))(hca:k≤e)(ha:a≠[])(hal:a.length≤17592186044416)(hrp:Rd w 32 B m (bf p))(hcp:m≤c)(hlaid:Laid w):RT 68 #[.int .i64 (n:Int),.int .i64 (i:Int),.slice A k e,.slice B m c] w (il (bc n i (bP (bI a)) p)):=by
 refine QG (Bn w.heap.size (KW w) QW) [.int .i64 (n:Int),.int .i64 (i:Int),.slice A k e,.slice B m c] (NA _ _ _) Tryz.func68 ?_ ?_ ⟨rfl,Nat.le_refl _⟩
 ·exact fun W hW v z xs h=>h W hW
 have hKa:KW w (.slice A k e) 1 (a.flatMap c8):=fun W hW=>⟨hra.aJ hW,hca⟩
 have hKp:KW w (.slice B m c) 32 (bf p):=fun W hW=>⟨hrp.aJ hW,hcp⟩
 have hL:bn (KW w):=dj hlaid
 have hpm:p.length=m:=by have:=hrp.1;rw [gr]at this;omega
 rw [jo]
 have hsm:=ID n i (bP (bI a)) p
 unfold pH
 refine QF (.bool (decide (65536<n))) (eN n 65536) ?_
 refine QD (decide (65536<n)) (fun h=>absurd (of_decide_eq_true h) ab) (fun _=>?_)
 refine QF (.bool (decide (i<0))) (dD i 0) ?_
 refine QD (decide (i<0)) (fun h=>absurd (of_decide_eq_true h) ab) (fun _=>?_)
 refine QF (.bool (decide (n≤i))) (gu i n) ?_
 refine QD (decide (n≤i)) (fun h=>absurd (of_decide_eq_true h) ab) (fun _=>?_)
 refine QB (.int .i64 (m:Int)) ?_
 refine QC (.int .i64 (mh n i:Int)) (fun α=>⟨[⟨.int .i64 (n:Int),0,[]⟩,⟨.int .i64 (i:Int),0,[]⟩],QQ,⟨rfl,n,i,rfl,hi,hn,rfl⟩,ap rfl⟩) ?_
 refine QB (.bool ((m:Int) != (mh n i:Int))) ?_
 refine QD ((m:Int) != (mh n i:Int)) (fun h=>?_) (fun h=>?_)
 ·have h:¬ p.length=mh n i:=by simp at h;omega
  rw [decide_eq_false h,Option.isSome_eq_false_iff,Option.isNone_iff_eq_none]at hsm
  rw [hsm]
  exact QE (.tuple #[dK (fun _=>0),.int .i64 70]) rfl
 have h:p.length=mh n i:=by simp at h;omega
 rw [decide_eq_true h]at hsm
 obtain⟨R,hR⟩:=Option.isSome_iff_exists.1 hsm
 rw [hR]
 refine dM (fun v N=>∃ (x1:Addr) (x2:Nat) (x3:Addr) (x4:Nat) (T:List dY),v=y5 (.slice (some x1) (R.length+1) x2) (.slice (some x3) (R.length+1) x4)∧N=gN (.slice (some x1) (R.length+1) x2) (.slice (some x3) (R.length+1) x4) T ((bP (bI a),bI a)::R)) al (fun α=>⟨[⟨.int .i64 (n:Int),0,[]⟩,⟨.int .i64 (i:Int),0,[]⟩,⟨.slice A k e,1,a.flatMap c8⟩,⟨.slice B m c,32,bf p⟩],⟨aa,aa,aa,aa,rfl,rfl,cast aa hKa,rfl,rfl,cast aa hKp,trivial⟩,rfl,hL,n,i,_,_,a,p,R,rfl,hi,hn,ha,hal,hR,fun x1 x2 x3 x4 T hT=>⟨x1,x2,x3,x4,T,rfl,rfl⟩⟩) ?_
 rintro _ _-⟨s1,s2,s3,s4,Ts,rfl,rfl⟩
 have m1:(⟨.slice (some s1) (R.length+1) s2,32,bf (((bP (bI a),bI a)::R).map (·.1))⟩:SX.Arg)∈gN (.slice (some s1) (R.length+1) s2) (.slice (some s3) (R.length+1) s4) Ts ((bP (bI a),bI a)::R)++(FV w.heap.size (KW w) QW).N:=List.mem_append_left _ (List.mem_cons_self ..)
 have hz:=Gx (bP (bI a),bI a) R
 have hnR:R.length≤65536:=by
  obtain⟨z,hz⟩:=od n
  rw [hz _ _ _ _ hR]
  exact BF n hn z hz hR
 have hlast:iv (bP (bI a),bI a).1 R=iv (bP (bI a)) R:=rfl
 rw [hlast]at hz
 show SX.VC _ _ _ _ (fun e w'=>e=.returned (il (some (iv (bP (bI a)) R)))∧_) _ _ _
 clear hR hsm hlast
 generalize iv (bP (bI a)) R=D at *
 generalize (bP (bI a),bI a)::R=R2 at *
 refine QB (.int .i64 ((R.length+1:Nat):Int)) ?_
 refine QF (.int .i64 ((R.length:Nat):Int)) (mF (a:=R.length+1) (b:=1) (d:=R.length) ab ab) ?_
 refine QC (.bool true) (fun α=>cq (A:=some s1) (n:=R.length+1) (c:=s2) (j:=R.length) al aa aa ab) ?_
 refine QN (f:=ao) (l:=R2.map (·.1)) (dK D) (some s1) (R.length+1) s2 R.length D al ab (eR (xs:=(R2.map (·.1)).flatMap ao) m1) hz ?_
 exact QE (.tuple #[dK D,.int .i64 0]) rfl
noncomputable def xL(nb:Nat)(K A:QV):SX.Cx:={ FV nb K A with R:=fun K f xs v=>ON 68 K f xs v∨PS f xs v }
theorem PA(nb:Nat)(K A:QV):(xL nb K A).Ok:=by
 refine SX.Cx.mo al (fun K f xs v W hR hrd hKf=>?_) (KC nb K A)
 rcases hR with ⟨rfl,hL,n,i,u,u2,X,p,rfl,hi,hn,hX,hXl,rfl⟩|hR
 ·obtain⟨A,a,e,rfl,h1,h2⟩:=bj (hrd ⟨u,1,X.flatMap c8⟩ ai)
  obtain⟨B,m,c,rfl,h3,h4⟩:=bj (hrd ⟨u2,32,bf p⟩ ai)
  exact(rL n i X p A a e B m c W hi hn h1 h2 hX hXl h3 h4 (bF hL hKf)).mono fun e w' h=>ay rfl h
 exact(NA nb K A).r K f xs v W hR hrd hKf
def sE:SX.Tree :=
(.df (.call 68 [.no,.no,(.ext 1),(.ext 32)]) (QK 0 3++[(.q 4)]) (.tp [(.ag 32),.one])
(.df (.call 68 [.no,.no,(.ext 1),(.ext 32)]) [(.q 0),(.q 1),(.q 3),(.q 5)] (.tp [(.ag 32),.one])
(.df (.bin .neq 32) [(.x 6 [1]),(.i 0)] .one
(.br 8 []
(.ret (.t [(.k (.slice none 0 0)),(.k (.slice none 0 0)),(.k (.bool false))]) [none,none] [])
(.df (.bin .neq 32) [(.x 7 [1]),(.i 0)] .one
(.br 9 []
(.ret (.t [(.k (.slice none 0 0)),(.k (.slice none 0 0)),(.k (.bool false))]) [none,none] [])
(.df (.eqr true 32 (QL 32 (.i .u8))) [(.x 6 [0,0]),(.x 6 [0,1]),(.x 6 [0,2]),(.x 6 [0,3]),(.x 6 [0,4]),(.x 6 [0,5]),(.x 6 [0,6]),(.x 6 [0,7]),(.x 6 [0,8]),(.x 6 [0,9]),(.x 6 [0,10]),(.x 6 [0,11]),(.x 6 [0,12]),(.x 6 [0,13]),(.x 6 [0,14]),(.x 6 [0,15]),(.x 6 [0,16]),(.x 6 [0,17]),(.x 6 [0,18]),(.x 6 [0,19]),(.x 6 [0,20]),(.x 6 [0,21]),(.x 6 [0,22]),(.x 6 [0,23]),(.x 6 [0,24]),(.x 6 [0,25]),(.x 6 [0,26]),(.x 6 [0,27]),(.x 6 [0,28]),(.x 6 [0,29]),(.x 6 [0,30]),(.x 6 [0,31]),(.x 7 [0,0]),(.x 7 [0,1]),(.x 7 [0,2]),(.x 7 [0,3]),(.x 7 [0,4]),(.x 7 [0,5]),(.x 7 [0,6]),(.x 7 [0,7]),(.x 7 [0,8]),(.x 7 [0,9]),(.x 7 [0,10]),(.x 7 [0,11]),(.x 7 [0,12]),(.x 7 [0,13]),(.x 7 [0,14]),(.x 7 [0,15]),(.x 7 [0,16]),(.x 7 [0,17]),(.x 7 [0,18]),(.x 7 [0,19]),(.x 7 [0,20]),(.x 7 [0,21]),(.x 7 [0,22]),(.x 7 [0,23]),(.x 7 [0,24]),(.x 7 [0,25]),(.x 7 [0,26]),(.x 7 [0,27]),(.x 7 [0,28]),(.x 7 [0,29]),(.x 7 [0,30]),(.x 7 [0,31])] .one
(.br 10 []
(.ret (.t [(.k (.slice none 0 0)),(.k (.slice none 0 0)),(.k (.bool false))]) [none,none] [])
(.df .b2sx [(.q 2)] .one
(.df .b2sx [(.q 3)] .one
(.df (.bin .eql 9) [(.q 11),(.q 12)] .one
(.br 13 []
(.ret (.t [(.k (.slice none 0 0)),(.k (.slice none 0 0)),(.k (.bool false))]) [none,none] [])
(.df (.callq 69 [.no,.no,(.ext 1),(.ext 32)]) (QK 0 3++[(.q 4)]) (.tp [.one,.one])
(.df (.callq 69 [.no,.no,(.ext 1),(.ext 32)]) [(.q 0),(.q 1),(.q 3),(.q 5)] (.tp [.one,.one])
(.loop [(.i 0)] [.one]
(.df (.len false) [(.x 14 [0])] .one
(.df (.bin .lss 3) [(.q 16),(.q 17)] .one
(.br 18 []
(.df .bnd [(.x 14 [0]),(.q 16)] .one
(.df (.elems 32 0 32) [(.x 14 [0]),(.q 16)] (.ag 32)
(.df .bnd [(.x 15 [0]),(.q 16)] .one
(.df (.elems 32 0 32) [(.x 15 [0]),(.q 16)] (.ag 32)
(.df (.eqr false 32 (QL 32 (.i .u8))) (QJ 20 0 32++QJ 22 0 32) .one
(.br 23 []
(.df .bnd [(.x 14 [1]),(.q 16)] .one
(.df (.elem 1 0) [(.x 14 [1]),(.q 16)] .one
(.df .bnd [(.x 15 [1]),(.q 16)] .one
(.df (.elem 1 0) [(.x 15 [1]),(.q 16)] .one
(.ret (.t [(.q 25),(.q 27),(.k (.bool true))]) [none,none,none] [])))))
(.df (.bin .add 3) [(.q 16),(.i 1)] .one
(.again 0 [(.q 24)]))))))))
(.ret (.t [(.k (.slice none 0 0)),(.k (.slice none 0 0)),(.k (.bool false))]) [none,none,none] [])))))))))))))))))))
def zO:List SX.V:=[.x 0 [],.x 1 [],.x 2 [],.x 3 [],.x 4 [],.x 5 []]
def Dj:kp:=⟨fun f=>f != 69,[⟨35,8,[(.s 23,.one)]⟩],12,100⟩
theorem EO(nb:Nat)(K A:QV):QU (xL nb K A) Dj 35 Tryz.f35 zO [.one,.one,.one,.one,.one,.one]=sE:=aa
theorem El(n i:Nat)(a b:List W8)(p q:List Dg)(A:Option Addr)(k e:Nat)(A':Option Addr)(k' e':Nat)(B:Option Addr)(m c:Nat)(B':Option Addr)(m' c':Nat)(w:World)(hi:i<n)(hn:n≤65536)(hra:Rd w 1 A k (a.flatMap c8))(hca:k≤e)(ha:a≠[])(hal:a.length≤17592186044416)(hrb:Rd w 1 A' k' (b.flatMap c8))(hcb:k'≤e')(hb:b≠[])(hbl:b.length≤17592186044416)(hrp:Rd w 32 B m (bf p))(hcp:m≤c)(hrq:Rd w 32 B' m' (bf q))(hcq:m'≤c')(hlaid:Laid w):Calls Tryz.prog 35 #[.int .i64 (n:Int),.int .i64 (i:Int),.slice A k e,.slice A' k' e',.slice B m c,.slice B' m' c'] w fun e w'=>iO w w' (vx n i a b p q) e:=by
 refine QG (EO w.heap.size (KW w) QW) [.int .i64 (n:Int),.int .i64 (i:Int),.slice A k e,.slice A' k' e',.slice B m c,.slice B' m' c'] (PA _ _ _) Tryz.func35 ?_ ?_ ⟨rfl,Nat.le_refl _⟩
 ·exact fun W hW v z xs h=>h W hW
 have hKa:KW w (.slice A k e) 1 (a.flatMap c8):=fun W hW=>⟨hra.aJ hW,hca⟩
 have hKb:KW w (.slice A' k' e') 1 (b.flatMap c8):=fun W hW=>⟨hrb.aJ hW,hcb⟩
 have hKp:KW w (.slice B m c) 32 (bf p):=fun W hW=>⟨hrp.aJ hW,hcp⟩
 have hKq:KW w (.slice B' m' c') 32 (bf q):=fun W hW=>⟨hrq.aJ hW,hcq⟩
 have hL:bn (KW w):=dj hlaid
 unfold sE
 refine aO (il (bc n i (bP (bI a)) p)) (fun α=>⟨[⟨.int .i64 (n:Int),0,[]⟩,⟨.int .i64 (i:Int),0,[]⟩,⟨.slice A k e,1,a.flatMap c8⟩,⟨.slice B m c,32,bf p⟩],⟨aa,aa,aa,aa,rfl,rfl,cast aa hKa,rfl,rfl,cast aa hKp,trivial⟩,.inl ⟨rfl,hL,n,i,_,_,a,p,rfl,hi,hn,ha,hal,rfl⟩,ap rfl⟩) (by cases bc n i (bP (bI a)) p<;>rfl) ?_
 refine aO (il (bc n i (bP (bI b)) q)) (fun α=>⟨[⟨.int .i64 (n:Int),0,[]⟩,⟨.int .i64 (i:Int),0,[]⟩,⟨.slice A' k' e',1,b.flatMap c8⟩,⟨.slice B' m' c',32,bf q⟩],⟨aa,aa,aa,aa,rfl,rfl,cast aa hKb,rfl,rfl,cast aa hKq,trivial⟩,.inl ⟨rfl,hL,n,i,_,_,b,q,rfl,hi,hn,hb,hbl,rfl⟩,ap rfl⟩) (by cases bc n i (bP (bI b)) q<;>rfl) ?_
 rw [jo,jo]
 unfold vx
 cases h1:eY n i (bP (bI a)) p with
 | none =>
  refine QB (.bool true) ?_
  refine QD true (fun _=>?_) (fun h=>nomatch h)
  exact aK fun α W _ _ hS=>⟨hS.below,(none,0,0),(none,0,0),aa,cH,cH⟩
 | some R =>
 refine QB (.bool false) ?_
 refine QD false (fun h=>nomatch h) (fun _=>?_)
 cases h2:eY n i (bP (bI b)) q with
 | none =>
  refine QB (.bool true) ?_
  refine QD true (fun _=>?_) (fun h=>nomatch h)
  exact aK fun α W _ _ hS=>⟨hS.below,(none,0,0),(none,0,0),aa,cH,cH⟩
 | some S =>
 refine QB (.bool false) ?_
 refine QD false (fun h=>nomatch h) (fun _=>?_)
 have hRS:R.length=S.length:=by
  obtain⟨z,hz⟩:=od n
  rw [hz _ _ _ _ h1,hz _ _ _ _ h2]
 simp only []
 generalize hdA:iv (bP (bI a)) R=dA at *
 generalize hdB:iv (bP (bI b)) S=dB at *
 refine QC (.bool (true ^^ decide (cr dA=cr dB))) (fun α=>fH (f:=(fun l:List W8=>l.map w8)) gp (y:=cr dA) (z:=cr dB) aa aa aa) ?_
 refine QD (true ^^ decide (cr dA=cr dB)) (fun h3=>?_) (fun h3=>?_)
 ·have h3:¬ cr dA=cr dB:=af h3
  rw [if_neg fun h=>h3 h.1]
  exact aK fun α W _ _ hS=>⟨hS.below,(none,0,0),(none,0,0),aa,cH,cH⟩
 have h3:cr dA=cr dB:=af h3
 refine QC (.string (bt a)) (fun α=>⟨(bt a).data.toList,A,k,e,cast (by rw [th,fw];kernel_rfl) hKa,aa,ai⟩) ?_
 refine QC (.string (bt b)) (fun α=>⟨(bt b).data.toList,A',k',e',cast (by rw [th,fw];kernel_rfl) hKb,aa,ai⟩) ?_
 refine QB (.bool (decide (bt a=bt b))) ?_
 refine QD (decide (bt a=bt b)) (fun h4=>?_) (fun h4=>?_)
 ·have h4:a=b:=by rw [← fw a,of_decide_eq_true h4,fw]
  rw [if_neg fun h=>h.2 h4]
  exact aK fun α W _ _ hS=>⟨hS.below,(none,0,0),(none,0,0),aa,cH,cH⟩
 have h4:a≠b:=fun h=>of_decide_eq_false h4 (by rw [h])
 rw [if_pos ⟨h3,h4⟩]
 refine dM (fun v N=>∃ (x1:Addr) (x2:Nat) (x3:Addr) (x4:Nat) (T:List dY),v=y5 (.slice (some x1) (R.length+1) x2) (.slice (some x3) (R.length+1) x4)∧T.length=R.length+1∧N=gN (.slice (some x1) (R.length+1) x2) (.slice (some x3) (R.length+1) x4) T ((bP (bI a),bI a)::R)) al (fun α=>⟨[⟨.int .i64 (n:Int),0,[]⟩,⟨.int .i64 (i:Int),0,[]⟩,⟨.slice A k e,1,a.flatMap c8⟩,⟨.slice B m c,32,bf p⟩],⟨aa,aa,aa,aa,rfl,rfl,cast aa (hKa),rfl,rfl,cast aa (hKp),trivial⟩,rfl,hL,n,i,_,_,a,p,R,rfl,hi,hn,ha,hal,h1,fun x1 x2 x3 x4 T hT=>⟨x1,x2,x3,x4,T,rfl,hT,rfl⟩⟩) ?_
 rintro _ _-⟨s1,s2,s3,s4,Ts,rfl,hTs,rfl⟩
 have hKb1:((xL w.heap.size (KW w) QW).plus (gN (.slice (some s1) (R.length+1) s2) (.slice (some s3) (R.length+1) s4) Ts ((bP (bI a),bI a)::R)++(xL w.heap.size (KW w) QW).N)).K (.slice A' k' e') 1 (b.flatMap c8):=.inl hKb
 have hKq1:((xL w.heap.size (KW w) QW).plus (gN (.slice (some s1) (R.length+1) s2) (.slice (some s3) (R.length+1) s4) Ts ((bP (bI a),bI a)::R)++(xL w.heap.size (KW w) QW).N)).K (.slice B' m' c') 32 (bf q):=.inl hKq
 refine dM (fun v N=>∃ (x1:Addr) (x2:Nat) (x3:Addr) (x4:Nat) (T:List dY),v=y5 (.slice (some x1) (S.length+1) x2) (.slice (some x3) (S.length+1) x4)∧T.length=S.length+1∧N=gN (.slice (some x1) (S.length+1) x2) (.slice (some x3) (S.length+1) x4) T ((bP (bI b),bI b)::S)) al (fun α=>⟨[⟨.int .i64 (n:Int),0,[]⟩,⟨.int .i64 (i:Int),0,[]⟩,⟨.slice A' k' e',1,b.flatMap c8⟩,⟨.slice B' m' c',32,bf q⟩],⟨aa,aa,aa,aa,rfl,rfl,cast aa (hKb1),rfl,rfl,cast aa (hKq1),trivial⟩,rfl,jN hL,n,i,_,_,b,q,S,rfl,hi,hn,hb,hbl,h2,fun x1 x2 x3 x4 T hT=>⟨x1,x2,x3,x4,T,rfl,hT,rfl⟩⟩) ?_
 rintro _ _-⟨t1,t2,t3,t4,Tt,rfl,hTt,rfl⟩
 have hNs:∀ y∈gN (.slice (some s1) (R.length+1) s2) (.slice (some s3) (R.length+1) s4) Ts ((bP (bI a),bI a)::R),y∈(gN (.slice (some t1) (S.length+1) t2) (.slice (some t3) (S.length+1) t4) Tt ((bP (bI b),bI b)::S)++(gN (.slice (some s1) (R.length+1) s2) (.slice (some s3) (R.length+1) s4) Ts ((bP (bI a),bI a)::R)++(xL w.heap.size (KW w) QW).N)):=fun y hy=>List.mem_append_right _ (List.mem_append_left _ hy)
 have hNt:∀ y∈gN (.slice (some t1) (S.length+1) t2) (.slice (some t3) (S.length+1) t4) Tt ((bP (bI b),bI b)::S),y∈(gN (.slice (some t1) (S.length+1) t2) (.slice (some t3) (S.length+1) t4) Tt ((bP (bI b),bI b)::S)++(gN (.slice (some s1) (R.length+1) s2) (.slice (some s3) (R.length+1) s4) Ts ((bP (bI a),bI a)::R)++(xL w.heap.size (KW w) QW).N)):=fun y hy=>List.mem_append_left _ hy
 have m1:=hNs _ (List.mem_cons_self ..)
 have m2:=hNs _ (List.mem_cons_of_mem _ (List.mem_cons_self ..))
 have m3:=hNt _ (List.mem_cons_self ..)
 have m4:=hNt _ (List.mem_cons_of_mem _ (List.mem_cons_self ..))
 have hW1:=fun(j:Nat) (t:dY) (r:Rw) (h:Ts[j]?=some t) (h':((bP (bI a),bI a)::R)[j]?=some r)=>hNs _ (oc h h')
 have hW2:=fun(j:Nat) (t:dY) (r:Rw) (h:Tt[j]?=some t) (h':((bP (bI b),bI b)::S)[j]?=some r)=>hNt _ (oc h h')
 have hl1:((bP (bI a),bI a)::R).length=R.length+1:=rfl
 have hl2:((bP (bI b),bI b)::S).length=S.length+1:=rfl
 have hnR:R.length≤65536:=by
  obtain⟨z,hz⟩:=od n
  rw [hz _ _ _ _ h1]
  exact BF n hn z hz h1
 clear h1 h2 hdA hdB hNs hNt
 generalize ((bP (bI a),bI a)::R:List Rw)=R2 at *
 generalize ((bP (bI b),bI b)::S:List Rw)=S2 at *
 refine ck (fun xs=>∃ kk:Nat,xs=[.int .i64 (kk:Int)]∧kk≤R.length+1∧iS (R2.drop kk) (S2.drop kk)=iS R2 S2) (fun xs=>match xs with|.int _ j::_=>R.length+1-j.toNat|_=>0) (fun α=>⟨0,aa,ab,rfl⟩) ?_
 rintro xs-⟨kk,rfl,hkk,hI⟩
 refine QB (.int .i64 ((R.length+1:Nat):Int)) ?_
 refine QF (.bool (decide (kk<R.length+1))) (dD kk (R.length+1)) ?_
 refine QD (decide (kk<R.length+1)) (fun h5=>?_) (fun h5=>?_)
 ·have h5:kk<R.length+1:=af h5
  obtain⟨x,hx⟩:∃ x,R2[kk]?=some x:=⟨_,List.getElem?_eq_getElem ab⟩
  obtain⟨y,hy⟩:∃ y,S2[kk]?=some y:=⟨_,List.getElem?_eq_getElem ab⟩
  obtain⟨t,ht⟩:∃ t,Ts[kk]?=some t:=⟨_,List.getElem?_eq_getElem ab⟩
  obtain⟨u,hu⟩:∃ u,Tt[kk]?=some u:=⟨_,List.getElem?_eq_getElem ab⟩
  have hx1:(R2.map (·.1))[kk]?=some x.1:=by rw [List.getElem?_map,hx];rfl
  have hy1:(S2.map (·.1))[kk]?=some y.1:=by rw [List.getElem?_map,hy];rfl
  rw [qF hx hy]at hI
  refine QC (.bool true) (fun α=>cq (A:=some s1) (n:=R.length+1) (c:=s2) (j:=kk) al aa aa h5) ?_
  refine QN (f:=ao) (l:=R2.map (·.1)) (dK x.1) (some s1) (R.length+1) s2 kk x.1 al h5 (eR (xs:=(R2.map (·.1)).flatMap ao) m1) hx1 ?_
  refine QC (.bool true) (fun α=>cq (A:=some t1) (n:=S.length+1) (c:=t2) (j:=kk) al aa aa ab) ?_
  refine QN (f:=ao) (l:=S2.map (·.1)) (dK y.1) (some t1) (S.length+1) t2 kk y.1 al ab (eR (xs:=(S2.map (·.1)).flatMap ao) m3) hy1 ?_
  refine QC (.bool (false ^^ decide (cr x.1=cr y.1))) (fun α=>fH (f:=(fun l:List W8=>l.map w8)) gp (y:=cr x.1) (z:=cr y.1) aa aa aa) ?_
  have hng:∀ h6:¬ cr x.1=cr y.1,iS (R2.drop (kk+1)) (S2.drop (kk+1))=iS R2 S2:=fun h6=>by rw [← hI,if_neg h6]
  refine QD (false ^^ decide (cr x.1=cr y.1)) (fun h6=>?_) (fun h6=>?_)
  ·have h6:cr x.1=cr y.1:=af h6
   rw [← hI,if_pos h6]
   refine QC (.bool true) (fun α=>cq (A:=some s3) (n:=R.length+1) (c:=s4) (j:=kk) al aa aa h5) ?_
   refine QC (gJ t) (fun α=>cS (o:=0) (v:=gJ t) (f:=aA) (l:=Ts) (A:=some s3) (n:=R.length+1) (c:=s4) (j:=kk) (z:=t) al al aa aa h5 (eR m2) ht aj aa) ?_
   refine QC (.bool true) (fun α=>cq (A:=some t3) (n:=S.length+1) (c:=t4) (j:=kk) al aa aa ab) ?_
   refine QC (gJ u) (fun α=>cS (o:=0) (v:=gJ u) (f:=aA) (l:=Tt) (A:=some t3) (n:=S.length+1) (c:=t4) (j:=kk) (z:=u) al al aa aa ab (eR m4) hu aj aa) ?_
   refine aK fun α W _ _ hS=>⟨hS.below,t,u,aa,?_,?_⟩
   ·have hN2:=hS.fact (p:=SX.NF _) (List.mem_append.2 (.inr (List.mem_cons_of_mem _ (List.mem_cons_self ..)))) _ (hW1 kk t x ht hx)
    exact⟨⟨t.1,t.2.1,t.2.2,rfl,hN2.1.2⟩,hN2.1,.inl hN2.2⟩
   have hN2:=hS.fact (p:=SX.NF _) (List.mem_append.2 (.inr (List.mem_cons_of_mem _ (List.mem_cons_self ..)))) _ (hW2 kk u y hu hy)
   exact⟨⟨u.1,u.2.1,u.2.2,rfl,hN2.1.2⟩,hN2.1,.inl hN2.2⟩
  have h6:¬ cr x.1=cr y.1:=af h6
  refine QF (.int .i64 ((kk+1:Nat):Int)) (cC (a:=kk) (b:=1) (d:=kk+1) rfl ab) ?_
  exact bW rfl (fun α=>⟨kk+1,aa,ab,hng h6⟩) (fun α=>cast aa (show R.length+1-((kk+1:Nat):Int).toNat<R.length+1-(kk:Int).toNat by omega))
 have h5:¬ kk<R.length+1:=af h5
 rw [tJ ab]at hI
 rw [← hI]
 exact aK fun α W _ _ hS=>⟨hS.below,(none,0,0),(none,0,0),aa,cH,cH⟩
theorem nT{C:SX.Cx}{ρ:List Value}{α:Nat→SX.AV}{y:SX.V}{l:List Value}{j sz:Nat}(h:ρ.getD j undef=.agg l.toArray):oN C ρ α sz (.row sz [.x j []]) y l:=⟨⟨y.den ρ α,sz,l⟩,⟨by rw [← bz (α:=α) h];simp [SX.V.den,ae],trivial⟩,rfl,rfl⟩
theorem NE(u:Nat):BitVec.ofNat 8 (u % 128+128)=BitVec.ofNat 8 u|||128#8:=by
 apply BitVec.eq_of_toNat_eq
 rw [BitVec.toNat_or,BitVec.toNat_ofNat,BitVec.toNat_ofNat]
 show(u % 128+128) % 256=u % 256|||128
 have h:∀ m<256,m|||128=m % 128+128:=aj
 rw [h (u % 256) ab]
 omega
theorem Ix(u:Nat):aZ .rem (.int .u64 (u:Int)) (.int .u64 (128:Int))=some (.int .u64 ((u % 128:Nat):Int)):=by
 have e:((u % 128:Nat):Int)=(u:Int).tmod 128:=by
  rw [Int.tmod_eq_emod_of_nonneg ab];rfl
 simp only [aZ]
 rw [if_pos trivial,if_neg aj,e]
theorem Iv(u:Nat)(h:u<128):aZ .add (.int .u64 (u:Int)) (.int .u64 (128:Int))=some (.int .u64 ((u+128:Nat):Int)):=by
 simp only [aZ,om,if_true]
 rw [eZ]
 congr 2
 omega
theorem Iw(u:Nat)(h:u<18446744073709551616):aZ .quo (.int .u64 (u:Int)) (.int .u64 (128:Int))=some (.int .u64 ((u / 128:Nat):Int)):=by
 have h2:(u:Int).tdiv 128=((u / 128:Nat):Int):=by
  rw [Int.tdiv_eq_ediv_of_nonneg ab];rfl
 simp only [aZ,if_true,h2]
 rw [if_neg aj,eZ]
 congr 2
 omega
theorem jr(l:List W8):SX.Sh.fit (.sl 1) (.agg (l.flatMap c8).toArray)=true:=by
 have h2:(l.flatMap c8).all (·.oneCell')=true:=by
  rw [List.all_eq_true]
  intro u hu
  obtain⟨a,_,h⟩:=List.mem_flatMap.1 hu
  exact w6 a u h
 have h1:(l.flatMap c8).length % 1=0:=Nat.mod_one _
 simp only [SX.Sh.fit,h1,h2]
 rfl
def OP(U:Nat)(f:FuncId)(xs:List SX.Arg)(v:Value):Prop:=f=121∧∃ u:Nat,u<U∧u<18446744073709551616∧xs=[⟨.int .u64 (u:Int),0,[]⟩]∧v=.agg ((bZ u).flatMap c8).toArray
noncomputable def M1(U:Nat)(K A:QV):SX.Cx:={ P:=Tryz.prog,R:=fun _=>OP U,shp:=fun f=>if f=121 then some (.sl 1)else none,K:=K,A:=A,bsr:=true }
def uT:SX.Tree :=
(.df (.bin .lss 140) [(.q 0),(.k (.int .u64 128))] .one
(.br 1 []
(.df (.conv .u8) [(.q 0)] .one
(.ret (.row 0) [(some ⟨[(.a [(.q 2)])],5,(.row 1)⟩)] []))
(.df (.bin .rem 140) [(.q 0),(.k (.int .u64 128))] .one
(.df (.bin .add 140) [(.q 2),(.k (.int .u64 128))] .one
(.df (.conv .u8) [(.q 3)] .one
(.df (.bin .quo 140) [(.q 0),(.k (.int .u64 128))] .one
(.df (.call 121 [.no]) [(.q 5)] (.sl 1)
(.df (.dN 1 1 (.row 1 [(.q 6)])) [(.cat [(.a [(.q 4)])]),(.row 1)] .any
(.ret (.row 2) [none,none,(some ⟨[(.a [(.q 4)]),(.q 7)],5,(.row 1)⟩)] [])))))))))
def C7:List SX.V:=[.x 0 []]
theorem HO(U:Nat)(K A:QV):QU (M1 U K A) ⟨fun f=>f != 121,[],2,100⟩ 121 Tryz.f121 C7 [.one]=uT:=aa
theorem Er(U u:Nat)(hok:∀ K A,(M1 U K A).Ok)(hu:u<18446744073709551616)(hU:128≤u→u / 128<U)(w:World):RS 121 #[.int .u64 (u:Int)] w 1 ((bZ u).flatMap c8):=by
 refine QG (HO U QW QW) [.int .u64 (u:Int)] (hok _ _) Tryz.func121 ?_ ?_
 ·exact fun W _=>cD (fun _ _ _ h=>h) W
 unfold uT
 refine QB (.bool (decide ((u:Int)<128))) ?_
 refine QD (decide ((u:Int)<128)) (fun h1=>?_) (fun h1=>?_)
 ·have h1:u<128:=by have:=of_decide_eq_true h1;omega
  refine QF (w8 (BitVec.ofNat 8 u)) (u5 u .u64) ?_
  exact aK fun α W _ hrow hS=>⟨hS.below,_,aa,aH.row hS (n:=0) (b:=(⟨[(.a [(.x 2 [])])],5,(.row 1)⟩:ak)) aa rfl (hrow 0 _ aa) (Eq.trans (b:=[Value.agg #[w8 (BitVec.ofNat 8 u)]].flatMap ae) aa (by rw [dE h1];rfl))⟩
 have h1:¬ u<128:=by have:=of_decide_eq_false h1;omega
 have hlen:=cU 8 (u / 128) ab
 refine QF (.int .u64 ((u % 128:Nat):Int)) (Ix u) ?_
 refine QF (.int .u64 ((u % 128+128:Nat):Int)) (Iv (u % 128) ab) ?_
 refine QC (w8 (BitVec.ofNat 8 u|||128#8)) (fun α=>by rw [← NE];exact cast aa (u5 (u % 128+128) .u64)) ?_
 refine QF (.int .u64 ((u / 128:Nat):Int)) (Iw u hu) ?_
 refine aO (.agg ((bZ (u / 128)).flatMap c8).toArray) (fun α=>⟨[⟨.int .u64 ((u / 128:Nat):Int),0,[]⟩],QP,⟨rfl,u / 128,hU ab,ab,rfl,rfl⟩,ap rfl⟩) (jr _) ?_
 refine aO (.agg ((bZ (u / 128)).flatMap c8).toArray) (fun α=>az (f:=c8) (l1:=[BitVec.ofNat 8 u|||128#8]) (l2:=bZ (u / 128)) al w6 aj aa (nT aa) (by simp only [LL];omega) (by simp only [LL];omega)) rfl ?_
 exact aK fun α W _ hrow hS=>⟨hS.below,_,aa,aH.row hS (n:=2) (b:=(⟨[(.a [(.x 4 [])]),(.x 7 [])],5,(.row 1)⟩:ak)) aa rfl (hrow 2 _ aa) (Eq.trans (b:=[Value.agg #[w8 (BitVec.ofNat 8 u|||128#8)],Value.agg ((bZ (u / 128)).flatMap c8).toArray].flatMap ae) aa (by rw [qi h1];simp [ae,c8]))⟩
theorem yJ:∀ (U u:Nat),u<U→u<18446744073709551616→∀ w:World,Calls Tryz.prog 121 #[.int .u64 (u:Int)] w fun e w'=>Below w.heap.size w w'∧∃ hdr,e=.returned hdr∧aH w w' [] hdr 1 ((bZ u).flatMap c8)
 | 0,u,h,_,_=>absurd h ab
 | U+1,u,h,hu,w=>Er U u (fun K A=>SX.Cx.b6 al fun _ f xs v W hR hrd hKf=>by
  obtain⟨rfl,y,hy,hyu,rfl,rfl⟩:=hR
  exact(yJ U y hy hyu W).mono fun e w' h=>aH.tc rfl h) hu ab w
theorem nM(u:Nat)(hu:u<18446744073709551616)(w:World):Calls Tryz.prog 121 #[.int .u64 (u:Int)] w fun e w'=>Below w.heap.size w w'∧∃ hdr,e=.returned hdr∧aH w w' [] hdr 1 ((bZ u).flatMap c8):=yJ (u+1) u ab hu w
def uV:SX.Tree :=
(.df (.bin .geq 3) [(.q 0),(.i 0)] .one
(.br 1 []
(.df (.conv .u64) [(.q 0)] .one
(.df (.bin .mul 140) [(.k (.int .u64 2)),(.q 2)] .one
(.ret (.q 3) [] [])))
(.df (.bin .add 3) [(.q 0),(.i 1)] .one
(.df .neg [(.q 2)] .one
(.df (.conv .u64) [(.q 3)] .one
(.df (.bin .mul 140) [(.k (.int .u64 2)),(.q 4)] .one
(.df (.bin .add 140) [(.q 5),(.k (.int .u64 1))] .one
(.ret (.q 6) [] []))))))))
def C9:List SX.V:=[.x 0 []]
theorem HU(K A:QV):QU (sU K A) ⟨fun f=>true,[],0,100⟩ 122 Tryz.f122 C9 [.one]=uV:=aa
theorem H3(k:Int)(w:World)(h1 : -9223372036854775808≤k)(h2:k≤9223372036854775807):RT 122 #[.int .i64 k] w (.int .u64 (eX k:Int)):=by
 refine QG (HU QW QW) [.int .i64 k] (fo _ _) Tryz.func122 ?_ ?_
 ·exact fun W _=>cD (fun _ _ _ h=>h) W
 unfold uV
 have hul:=lZ h1 h2
 refine QB (.bool (decide (k≥0))) ?_
 refine QD (decide (k≥0)) (fun h3=>?_) (fun h3=>?_)
 ·have h3:0≤k:=of_decide_eq_true h3
  obtain⟨m,rfl⟩:∃ m:Nat,k=(m:Int):=⟨k.toNat,ab⟩
  refine QC (.int .u64 (m:Int)) (fun α=>Eq.trans (b:=some (.int .u64 (IntKind.u64.wrap (m:Int)))) aa (by rw [eZ];congr 2;omega)) ?_
  refine QC (.int .u64 ((2*m:Nat):Int)) (fun α=>Eq.trans (b:=some (.int .u64 (IntKind.u64.wrap (2*(m:Int))))) aa (by rw [eZ];congr 2;omega)) ?_
  exact QE (.int .u64 ((2*m:Nat):Int)) (by rw [show eX (m:Int)=2*m by unfold eX;rw [if_pos h3];omega])
 have h3:k<0:=by have:=of_decide_eq_false h3;omega
 obtain⟨m,hm⟩:∃ m:Nat,k = -((m:Int)+1):=⟨(-k-1).toNat,ab⟩
 refine QC (.int .i64 (k+1)) (fun α=>QH (k+1)) ?_
 refine QC (.int .i64 (-(k+1))) (fun α=>QH (-(k+1))) ?_
 refine QC (.int .u64 (m:Int)) (fun α=>Eq.trans (b:=some (.int .u64 (IntKind.u64.wrap (-(k+1))))) aa (by rw [eZ];congr 2;omega)) ?_
 refine QC (.int .u64 ((2*m:Nat):Int)) (fun α=>Eq.trans (b:=some (.int .u64 (IntKind.u64.wrap (2*(m:Int))))) aa (by rw [eZ];congr 2;omega)) ?_
 refine QC (.int .u64 ((2*m+1:Nat):Int)) (fun α=>Eq.trans (b:=some (.int .u64 (IntKind.u64.wrap (((2*m:Nat):Int)+1)))) aa (by rw [eZ];congr 2;omega)) ?_
 exact QE (.int .u64 ((2*m+1:Nat):Int)) (by rw [show eX k=2*m+1 by unfold eX;rw [if_neg ab];omega])
def uQ:SX.Tree :=
(.ret (.k (.bool true)) [] [])
def C4:List SX.V:=[.a [.k (.int .i64 1),.x 0 [],.k (.string ⟨#[]⟩),.k (.slice none 0 0)]]
theorem HG(K A:QV):QU (sU K A) ⟨fun f=>true,[],0,100⟩ 119 Tryz.f119 C4 [.one]=uQ:=aa
theorem He(k:Int)(w:World):RT 119 #[.agg #[.int .i64 1,.int .i64 k,.string ⟨#[]⟩,.slice none 0 0]] w (.bool true):=by
 refine QG (HG QW QW) [.int .i64 k] (fo _ _) Tryz.func119 ?_ ?_
 ·exact fun W _=>cD (fun _ _ _ h=>h) W
 unfold uQ
 exact QE (.bool true) rfl
def uR:SX.Tree :=
(.ret (.k (.bool true)) [] [])
def C5:List SX.V:=[.a [.k (.int .i64 2),.k (.int .i64 0),.x 0 [],.k (.slice none 0 0)]]
theorem HH(K A:QV):QU (sU K A) ⟨fun f=>true,[],0,100⟩ 119 Tryz.f119 C5 [.one]=uR:=aa
theorem Hf(b:ByteArray)(w:World):RT 119 #[.agg #[.int .i64 2,.int .i64 0,.string b,.slice none 0 0]] w (.bool true):=by
 refine QG (HH QW QW) [.string b] (fo _ _) Tryz.func119 ?_ ?_
 ·exact fun W _=>cD (fun _ _ _ h=>h) W
 unfold uR
 exact QE (.bool true) rfl
def uJ:SX.Tree :=
(.ret (.i 0) [] [])
def CX:List SX.V:=[.a [.k (.int .i64 1),.x 0 [],.k (.string ⟨#[]⟩),.k (.slice none 0 0)]]
theorem Hw(K A:QV):QU (sU K A) ⟨fun f=>true,[],0,100⟩ 120 Tryz.f120 CX [.one]=uJ:=aa
theorem G7(k:Int)(w:World):RT 120 #[.agg #[.int .i64 1,.int .i64 k,.string ⟨#[]⟩,.slice none 0 0]] w (.int .i64 0):=by
 refine QG (Hw QW QW) [.int .i64 k] (fo _ _) Tryz.func120 ?_ ?_
 ·exact fun W _=>cD (fun _ _ _ h=>h) W
 unfold uJ
 exact QE (.int .i64 0) rfl
def uK:SX.Tree :=
(.ret (.i 0) [] [])
def CY:List SX.V:=[.a [.k (.int .i64 2),.k (.int .i64 0),.x 0 [],.k (.slice none 0 0)]]
theorem Hx(K A:QV):QU (sU K A) ⟨fun f=>true,[],0,100⟩ 120 Tryz.f120 CY [.one]=uK:=aa
theorem G8(b:ByteArray)(w:World):RT 120 #[.agg #[.int .i64 2,.int .i64 0,.string b,.slice none 0 0]] w (.int .i64 0):=by
 refine QG (Hx QW QW) [.string b] (fo _ _) Tryz.func120 ?_ ?_
 ·exact fun W _=>cD (fun _ _ _ h=>h) W
 unfold uK
 exact QE (.int .i64 0) rfl
def Qp(f:FuncId)(xs:List SX.Arg)(v:Value):Prop :=
 (f=119∧∃ z:Fl,xs=[⟨jH z,0,[]⟩]∧v=.bool true) ∨
 (f=120∧∃ z:Fl,xs=[⟨jH z,0,[]⟩]∧v=.int .i64 0)
def Oc:FuncId→Option SX.Sh:=fun f=>if f=119 then some .one else if f=120 then some .one else none
noncomputable def Lk(K A:QV):SX.Cx:={ P:=Tryz.prog,R:=fun _=>Qp,shp:=Oc,K:=K,A:=A }
theorem NB(K A:QV):(Lk K A).Ok:=by
 refine SX.Cx.b6 al ?_
 intro K f xs v W hR hrd hKf
 rcases hR with ⟨rfl,z,rfl,rfl⟩|⟨rfl,z,rfl,rfl⟩
 ·cases z with
  | n k=>exact(He k W).mono fun e w' h=>ay rfl h
  | s b=>exact(Hf b W).mono fun e w' h=>ay rfl h
 cases z with
 | n k=>exact(G7 k W).mono fun e w' h=>ay rfl h
 | s b=>exact(G8 b W).mono fun e w' h=>ay rfl h
def uS:SX.Tree :=
(.loop [(.i 0)] [.one]
(.df (.len false) [(.q 0)] .one
(.df (.bin .lss 3) [(.q 1),(.q 2)] .one
(.br 3 []
(.df .bnd [(.q 0),(.q 1)] .one
(.df (.elems 4 0 4) [(.q 0),(.q 1)] (.ag 4)
(.df (.call 119 [.no]) [(.a (QJ 5 0 4))] .one
(.df .not [(.q 6)] .one
(.br 7 []
(.ret (.k (.bool false)) [] [])
(.df (.bin .add 3) [(.q 1),(.i 1)] .one
(.again 0 [(.q 8)])))))))
(.ret (.k (.bool true)) [] [])))))
def C6:List SX.V:=[.a [.k (.int .i64 3),.k (.int .i64 0),.k (.string ⟨#[]⟩),.x 0 []]]
theorem HN(K A:QV):QU (Lk K A) ⟨fun f=>f != 119,[⟨119,8,[(.s 3,.one)]⟩],0,100⟩ 119 Tryz.f119 C6 [.one]=uS:=aa
theorem Hg(fl:List Fl)(A:Option Addr)(n c:Nat)(w:World)(hr:Rd w 4 A n (gS fl))(hn:n≤1048576)(hc:n≤c):RT 119 #[.agg #[.int .i64 3,.int .i64 0,.string ⟨#[]⟩,.slice A n c]] w (.bool true):=by
 refine QG (HN (fun s sz cells=>s=.slice A n c∧sz=4∧cells=gS fl) QW) [.slice A n c] (NB _ _) Tryz.func119 ?_ ?_
 ·rintro W hW s sz cells ⟨rfl,rfl,rfl⟩;exact⟨hr.aJ hW,hc⟩
 have hA:=SX.rd_some hr
 have hln:fl.length=n:=by have:=hr.1;rw [gT]at this;omega
 unfold uS
 refine ck (fun xs=>∃ (i:Nat),xs=[.int .i64 (i:Int)]∧i≤n) (fun xs=>match xs with|.int _ i::_=>n-i.toNat|_=>0) (fun α=>⟨0,aa,ab⟩) ?_
 rintro xs-⟨i,rfl,hin⟩
 refine QB (.int .i64 (n:Int)) ?_
 refine QB (.bool (decide ((i:Int)<(n:Int)))) ?_
 refine QD (decide ((i:Int)<(n:Int))) (fun h4=>?_) (fun h4=>?_)
 ·have h4:i<n:=by have:=of_decide_eq_true h4;omega
  obtain⟨z,hz⟩:∃ z,fl[i]?=some z:=⟨_,List.getElem?_eq_getElem ab⟩
  refine QM A n c i hA h4 ?_
  refine aO (jH z) (fun α=>im (f:=aR) (l:=fl) (A:=A) (n:=n) (c:=c) (j:=i) (z:=z) aY hA aa aa h4 ⟨rfl,rfl,rfl⟩ hz) (by cases z<;>rfl) ?_
  refine QC (.bool true) (fun α=>⟨[⟨jH z,0,[]⟩],⟨(by cases z<;>kernel_rfl),aa,trivial⟩,.inl ⟨rfl,z,rfl,rfl⟩,ap rfl⟩) ?_
  refine QB (.bool false) ?_
  refine QD false (fun h=>nomatch h) (fun _=>?_)
  refine QC (.int .i64 ((i+1:Nat):Int)) (fun α=>QI i) ?_
  exact bO fun α=>⟨⟨i+1,aa,ab⟩,cast aa (show n-((i+1:Nat):Int).toNat<n-(i:Int).toNat by omega)⟩
 exact QE (.bool true) rfl
def uL:SX.Tree :=
(.loop [(.i 0),(.i 0)] [.one,.one]
(.df (.len false) [(.q 0)] .one
(.df (.bin .lss 3) [(.q 1),(.q 3)] .one
(.br 4 []
(.df .bnd [(.q 0),(.q 1)] .one
(.df (.elems 4 0 4) [(.q 0),(.q 1)] (.ag 4)
(.df (.call 120 [.no]) [(.a (QJ 6 0 4))] .one
(.df .max [(.q 2),(.q 7)] .one
(.df (.bin .add 3) [(.q 1),(.i 1)] .one
(.again 0 [(.q 9),(.q 8)]))))))
(.df (.bin .add 3) [(.q 2),(.i 1)] .one
(.ret (.q 5) [] []))))))
def CZ:List SX.V:=[.a [.k (.int .i64 3),.k (.int .i64 0),.k (.string ⟨#[]⟩),.x 0 []]]
theorem Hy(K A:QV):QU (Lk K A) ⟨fun f=>f != 120,[⟨120,5,[(.s 4,.one),(.s 3,.one)]⟩],0,100⟩ 120 Tryz.f120 CZ [.one]=uL:=aa
theorem G9(fl:List Fl)(A:Option Addr)(n c:Nat)(w:World)(hr:Rd w 4 A n (gS fl))(hn:n≤1048576)(hc:n≤c):RT 120 #[.agg #[.int .i64 3,.int .i64 0,.string ⟨#[]⟩,.slice A n c]] w (.int .i64 1):=by
 refine QG (Hy (fun s sz cells=>s=.slice A n c∧sz=4∧cells=gS fl) QW) [.slice A n c] (NB _ _) Tryz.func120 ?_ ?_
 ·rintro W hW s sz cells ⟨rfl,rfl,rfl⟩;exact⟨hr.aJ hW,hc⟩
 have hA:=SX.rd_some hr
 have hln:fl.length=n:=by have:=hr.1;rw [gT]at this;omega
 unfold uL
 refine ck (fun xs=>∃ (i:Nat),xs=[.int .i64 (i:Int),.int .i64 0]∧i≤n) (fun xs=>match xs with|.int _ i::_=>n-i.toNat|_=>0) (fun α=>⟨0,aa,ab⟩) ?_
 rintro xs-⟨i,rfl,hin⟩
 refine QB (.int .i64 (n:Int)) ?_
 refine QB (.bool (decide ((i:Int)<(n:Int)))) ?_
 refine QD (decide ((i:Int)<(n:Int))) (fun h4=>?_) (fun h4=>?_)
 ·have h4:i<n:=by have:=of_decide_eq_true h4;omega
  obtain⟨z,hz⟩:∃ z,fl[i]?=some z:=⟨_,List.getElem?_eq_getElem ab⟩
  refine QM A n c i hA h4 ?_
  refine aO (jH z) (fun α=>im (f:=aR) (l:=fl) (A:=A) (n:=n) (c:=c) (j:=i) (z:=z) aY hA aa aa h4 ⟨rfl,rfl,rfl⟩ hz) (by cases z<;>rfl) ?_
  refine QC (.int .i64 0) (fun α=>⟨[⟨jH z,0,[]⟩],⟨(by cases z<;>kernel_rfl),aa,trivial⟩,.inr (⟨rfl,z,rfl,rfl⟩),ap rfl⟩) ?_
  refine QB (.int .i64 0) ?_
  refine QC (.int .i64 ((i+1:Nat):Int)) (fun α=>QI i) ?_
  exact bO fun α=>⟨⟨i+1,aa,ab⟩,cast aa (show n-((i+1:Nat):Int).toNat<n-(i:Int).toNat by omega)⟩
 refine QB (.int .i64 1) ?_
 exact QE (.int .i64 1) rfl
def Qq(K:QV)(f:FuncId)(xs:List SX.Arg)(v:Value):Prop :=
 (f=119∧∃ (u:Value) (fl:List Fl),xs=[⟨.agg #[.int .i64 3,.int .i64 0,.string ⟨#[]⟩,u],0,[]⟩]∧K u 4 (gS fl)∧fl.length≤1048576∧v=.bool true) ∨
 (f=120∧∃ (u:Value) (fl:List Fl),xs=[⟨.agg #[.int .i64 3,.int .i64 0,.string ⟨#[]⟩,u],0,[]⟩]∧K u 4 (gS fl)∧fl.length≤1048576∧v=.int .i64 1)
def Od:FuncId→Option SX.Sh:=fun f=>if f=119 then some .one else if f=120 then some .one else none
noncomputable def M8(K A:QV):SX.Cx:={ P:=Tryz.prog,R:=Qq,shp:=Od,K:=K,A:=A }
theorem PG(K A:QV):(M8 K A).Ok:=by
 refine SX.Cx.b6 al ?_
 intro K f xs v W hR hrd hKf
 rcases hR with ⟨rfl,u,fl,rfl,hku,hl,rfl⟩|⟨rfl,u,fl,rfl,hku,hl,rfl⟩
 ·obtain⟨A,n,c,rfl,h2,h3,h4⟩:=jZ (hKf u 4 (gS fl) hku)
  exact(Hg fl A n c W h2 ab h3).mono fun e w' h=>ay rfl h
 obtain⟨A,n,c,rfl,h2,h3,h4⟩:=jZ (hKf u 4 (gS fl) hku)
 exact(G9 fl A n c W h2 ab h3).mono fun e w' h=>ay rfl h
def uI:SX.Tree :=
(.df (.call 119 [.no]) [(.a [(.i 3),(.i 0),(.k (.string ⟨#[]⟩)),(.q 0)])] .one
(.df .not [(.q 1)] .one
(.br 2 []
(.ret (.i 1) [] [])
(.df (.call 120 [.no]) [(.a [(.i 3),(.i 0),(.k (.string ⟨#[]⟩)),(.q 0)])] .one
(.df (.bin .gtr 3) [(.q 3),(.i 16)] .one
(.br 4 []
(.ret (.i 2) [] [])
(.ret (.i 0) [] [])))))))
def CW:List SX.V:=[.a [.k (.int .i64 3),.k (.int .i64 0),.k (.string ⟨#[]⟩),.x 0 []]]
theorem Hv(K A:QV):QU (M8 K A) ⟨fun f=>true,[],0,100⟩ 91 Tryz.f91 CW [.one]=uI:=aa
theorem AQ(fl:List Fl)(A:Option Addr)(n c:Nat)(w:World)(hr:Rd w 4 A n (gS fl))(hn:n≤1048576)(hc:n≤c):RT 91 #[.agg #[.int .i64 3,.int .i64 0,.string ⟨#[]⟩,.slice A n c]] w (.int .i64 0):=by
 refine QG (Hv (fun s sz cells=>s=.slice A n c∧sz=4∧cells=gS fl) QW) [.slice A n c] (PG _ _) Tryz.func91 ?_ ?_
 ·rintro W hW s sz cells ⟨rfl,rfl,rfl⟩;exact⟨hr.aJ hW,hc⟩
 have hA:=SX.rd_some hr
 have hln:fl.length=n:=by have:=hr.1;rw [gT]at this;omega
 unfold uI
 refine QC (.bool true) (fun α=>⟨[⟨.agg #[.int .i64 3,.int .i64 0,.string ⟨#[]⟩,.slice A n c],0,[]⟩],QP,.inl ⟨rfl,.slice A n c,fl,rfl,⟨rfl,rfl,rfl⟩,ab,rfl⟩,ap rfl⟩) ?_
 refine QB (.bool false) ?_
 refine QD false (fun h=>nomatch h) (fun _=>?_)
 refine QC (.int .i64 1) (fun α=>⟨[⟨.agg #[.int .i64 3,.int .i64 0,.string ⟨#[]⟩,.slice A n c],0,[]⟩],QP,.inr (⟨rfl,.slice A n c,fl,rfl,⟨rfl,rfl,rfl⟩,ab,rfl⟩),ap rfl⟩) ?_
 refine QB (.bool false) ?_
 refine QD false (fun h=>nomatch h) (fun _=>?_)
 exact QE (.int .i64 0) rfl
def Qr(f:FuncId)(xs:List SX.Arg)(v:Value):Prop :=
 (f=121∧∃ u:Nat,u<18446744073709551616∧xs=[⟨.int .u64 (u:Int),0,[]⟩]∧v=.agg ((bZ u).flatMap c8).toArray) ∨
 (f=122∧∃ k:Int,xs=[⟨.int .i64 k,0,[]⟩]∧(-9223372036854775808≤k∧k≤9223372036854775807)∧v=.int .u64 (eX k:Int))
def Oe:FuncId→Option SX.Sh:=fun f=>if f=121 then some (.sl 1)else if f=122 then some .one else none
noncomputable def Ll(K A:QV):SX.Cx:={ P:=Tryz.prog,R:=fun _=>Qr,shp:=Oe,K:=K,A:=A,bsr:=true }
theorem NC(K A:QV):(Ll K A).Ok:=by
 refine SX.Cx.b6 al ?_
 intro K f xs v W hR hrd hKf
 rcases hR with ⟨rfl,u,hu,rfl,rfl⟩|⟨rfl,k,rfl,⟨h1,h2⟩,rfl⟩
 ·exact(nM u hu W).mono fun e w' h=>aH.tc rfl h
 exact(H3 k W h1 h2).mono fun e w' h=>ay rfl h
def uM:SX.Tree :=
(.df (.call 122 [.no]) [(.x 0 [])] .one
(.df (.call 121 [.no]) [(.x 1 [])] (.sl 1)
(.df (.dN 1 1 (.row 1 [(.x 2 [])])) [(.cat [(.a [(.k (.int .u8 1))])]),(.row 2)] .any
(.ret (.row 3) [none,none,none,(some ⟨[(.a [(.k (.int .u8 1))]),(.x 3 [])],5,(.row 1)⟩)] []))))
def C0:List SX.V:=[.a [.k (.int .i64 1),.x 0 [],.k (.string ⟨#[]⟩),.k (.slice none 0 0)]]
theorem Hz(K A:QV):QU (Ll K A) ⟨fun f=>true,[],2,100⟩ 92 Tryz.f92 C0 [.one]=uM:=aa
theorem Hb(k:Int)(w:World)(h1 : -9223372036854775808≤k)(h2:k≤9223372036854775807):RS 92 #[.agg #[.int .i64 1,.int .i64 k,.string ⟨#[]⟩,.slice none 0 0]] w 1 ((fb (.n k)).flatMap c8):=by
 refine QG (Hz QW QW) [.int .i64 k] (NC _ _) Tryz.func92 ?_ ?_
 ·exact fun W _=>cD (fun _ _ _ h=>h) W
 unfold uM
 have hul:=lZ h1 h2
 have hlen:=cU 9 (eX k) ab
 refine QC (.int .u64 (eX k:Int)) (fun α=>⟨[⟨.int .i64 k,0,[]⟩],QP,.inr (⟨rfl,k,rfl,⟨h1,h2⟩,rfl⟩),ap rfl⟩) ?_
 refine aO (.agg ((bZ (eX k)).flatMap c8).toArray) (fun α=>⟨[⟨.int .u64 ((eX k):Int),0,[]⟩],QP,.inl ⟨rfl,(eX k),hul,rfl,rfl⟩,ap rfl⟩) (jr _) ?_
 refine aO (.agg ((bZ (eX k)).flatMap c8).toArray) (fun α=>az (f:=c8) (l1:=[1#8]) (l2:=bZ (eX k)) al w6 aj aa (nT aa) (by simp only [LL];omega) (by simp only [LL];omega)) rfl ?_
 exact aK fun α W _ hrow hS=>⟨hS.below,_,aa,aH.row hS (n:=3) (b:=(⟨[(.a [(.k (.int .u8 1))]),(.x 3 [])],5,(.row 1)⟩:ak)) aa rfl (hrow 3 _ aa) (Eq.trans (b:=[Value.agg #[w8 1#8],Value.agg ((bZ (eX k)).flatMap c8).toArray].flatMap ae) aa (by simp [ae,c8,fb]))⟩
def uN:SX.Tree :=
(.df (.len true) [(.x 0 [])] .one
(.df (.conv .u64) [(.x 1 [])] .one
(.df (.call 121 [.no]) [(.x 2 [])] (.sl 1)
(.df (.dN 1 1 (.row 1 [(.x 3 [])])) [(.cat [(.a [(.k (.int .u8 2))])]),(.row 6)] .any
(.df (.aps 1) [(.cat [(.a [(.k (.int .u8 2))]),(.x 4 [])]),(.x 0 [])] .any
(.ret (.row 10) [none,none,none,none,none,none,none,none,none,none,(some ⟨[(.a [(.k (.int .u8 2))]),(.x 4 []),(.x 5 [])],5,(.row 1)⟩),none] []))))))
def C1:List SX.V:=[.a [.k (.int .i64 2),.k (.int .i64 0),.x 0 [],.k (.slice none 0 0)]]
theorem HA(K A:QV):QU (Ll K A) ⟨fun f=>true,[],2,100⟩ 92 Tryz.f92 C1 [.one]=uN:=aa
theorem Hc(b:ByteArray)(w:World)(hb:b.size≤1048576):RS 92 #[.agg #[.int .i64 2,.int .i64 0,.string b,.slice none 0 0]] w 1 ((fb (.s b)).flatMap c8):=by
 refine QG (HA QW QW) [.string b] (NC _ _) Tryz.func92 ?_ ?_
 ·exact fun W _=>cD (fun _ _ _ h=>h) W
 unfold uN
 have hlen:=cU 9 b.size ab
 have hcl:∀ l:List W8,(l.flatMap c8).length=l.length:=fun l=>by induction l with
  | nil=>rfl
  | cons a l ih=>simp only [List.flatMap_cons,List.length_append,aQ,List.length_cons,ih];omega
 refine QB (.int .i64 (b.size:Int)) ?_
 refine QC (.int .u64 (b.size:Int)) (fun α=>Eq.trans (b:=some (.int .u64 (IntKind.u64.wrap (b.size:Int)))) aa (by rw [eZ];congr 2;omega)) ?_
 refine aO (.agg ((bZ b.size).flatMap c8).toArray) (fun α=>⟨[⟨.int .u64 (b.size:Int),0,[]⟩],QP,.inl ⟨rfl,b.size,ab,rfl,rfl⟩,ap rfl⟩) (jr _) ?_
 refine aO (.agg ((bZ b.size).flatMap c8).toArray) (fun α=>az (f:=c8) (l1:=[2#8]) (l2:=bZ b.size) al w6 aj aa (nT aa) (by simp only [LL];omega) (by simp only [LL];omega)) rfl ?_
 have hcc:[Value.agg #[w8 2#8],Value.agg ((bZ b.size).flatMap c8).toArray].flatMap ae=([2#8]++bZ b.size).flatMap c8:=by simp [ae,c8]
 refine aO (Value.agg ((sb b).flatMap c8).toArray) (fun α=>⟨b,aa,?_,?_,by rw [nR]⟩) rfl ?_
 ·rw [show ae _=(([2#8]++bZ b.size).flatMap c8) from Eq.trans (b:=[Value.agg #[w8 2#8],Value.agg ((bZ b.size).flatMap c8).toArray].flatMap ae) aa hcc,hcl];simp only [LL];omega
 ·rw [show ae _=(([2#8]++bZ b.size).flatMap c8) from Eq.trans (b:=[Value.agg #[w8 2#8],Value.agg ((bZ b.size).flatMap c8).toArray].flatMap ae) aa hcc,hcl];simp only [LL];omega
 exact aK fun α W _ hrow hS=>⟨hS.below,_,aa,aH.row hS (n:=10) (b:=(⟨[(.a [(.k (.int .u8 2))]),(.x 4 []),(.x 5 [])],5,(.row 1)⟩:ak)) aa rfl (hrow 10 _ aa) (Eq.trans (b:=[Value.agg #[w8 2#8],Value.agg ((bZ b.size).flatMap c8).toArray,Value.agg ((sb b).flatMap c8).toArray].flatMap ae) aa (by simp [ae,c8,fb]))⟩
def Qs(f:FuncId)(xs:List SX.Arg)(v:Value):Prop :=
 (f=121∧∃ u:Nat,u<18446744073709551616∧xs=[⟨.int .u64 (u:Int),0,[]⟩]∧v=.agg ((bZ u).flatMap c8).toArray) ∨
 (f=92∧∃ z:Fl,z.fits∧xs=[⟨jH z,0,[]⟩]∧v=.agg ((fb z).flatMap c8).toArray)
def Of:FuncId→Option SX.Sh:=fun f=>if f=121 then some (.sl 1)else if f=92 then some (.sl 1)else none
noncomputable def M9(K A:QV):SX.Cx:={ P:=Tryz.prog,R:=fun _=>Qs,shp:=Of,K:=K,A:=A,bsr:=true }
theorem PH(K A:QV):(M9 K A).Ok:=by
 refine SX.Cx.b6 al ?_
 intro K f xs v W hR hrd hKf
 rcases hR with ⟨rfl,u,hu,rfl,rfl⟩|⟨rfl,z,hz,rfl,rfl⟩
 ·exact(nM u hu W).mono fun e w' h=>aH.tc rfl h
 cases z with
 | n k=>exact(Hb k W hz.1 hz.2).mono fun e w' h=>aH.tc rfl h
 | s b=>exact(Hc b W hz).mono fun e w' h=>aH.tc rfl h
def uO:SX.Tree :=
(.df (.len false) [(.x 0 [])] .one
(.df (.conv .u64) [(.x 1 [])] .one
(.df (.call 121 [.no]) [(.x 2 [])] (.sl 1)
(.df (.dN 1 1 (.row 1 [(.x 3 [])])) [(.cat [(.a [(.k (.int .u8 3))])]),(.row 2)] .any
(.loop [(.k (.int .i64 0)),(.cat [(.a [(.k (.int .u8 3))]),(.x 4 [])])] [.one,.any]
(.df (.len false) [(.x 0 [])] .one
(.df (.bin .lss 3) [(.x 5 []),(.x 7 [])] .one
(.br 8 []
(.df .bnd [(.x 0 []),(.x 5 [])] .one
(.df (.elems 4 0 4) [(.x 0 []),(.x 5 [])] (.ag 4)
(.df (.call 92 [.no]) [(.a [(.x 10 [0]),(.x 10 [1]),(.x 10 [2]),(.x 10 [3])])] (.sl 1)
(.df (.dN 1 1 (.row 1 [(.x 11 [])])) [(.cat [(.x 6 [])]),(.row 6)] .any
(.df (.bin .add 3) [(.x 5 []),(.k (.int .i64 1))] .one
(.again 0 [(.x 13 []),(.cat [(.x 6 []),(.x 12 [])])]))))))
(.ret (.row 5) [none,none,none,none,none,(some ⟨[(.x 6 [])],5,(.row 1)⟩)] [])))))))))
def C2:List SX.V:=[.a [.k (.int .i64 3),.k (.int .i64 0),.k (.string ⟨#[]⟩),.x 0 []]]
theorem HE(K A:QV):QU (M9 K A) ⟨fun f=>f != 92,[⟨92,8,[(.s 4,.one),(.s 3,.row 1 5)]⟩],2,100⟩ 92 Tryz.f92 C2 [.one]=uO:=aa
theorem Hd(fl:List Fl)(A:Option Addr)(n c:Nat)(w:World)(hr:Rd w 4 A n (gS fl))(hn:n≤1048576)(hc:n≤c)(hfit:∀ z∈fl,z.fits):RS 92 #[.agg #[.int .i64 3,.int .i64 0,.string ⟨#[]⟩,.slice A n c]] w 1 ((aG fl).flatMap c8):=by
 refine QG (HE (fun s sz cells=>s=.slice A n c∧sz=4∧cells=gS fl) QW) [.slice A n c] (PH _ _) Tryz.func92 ?_ ?_
 ·rintro W hW s sz cells ⟨rfl,rfl,rfl⟩;exact⟨hr.aJ hW,hc⟩
 have hA:=SX.rd_some hr
 have hln:fl.length=n:=by have:=hr.1;rw [gT]at this;omega
 have hN:=cU 9 n ab
 unfold uO
 refine QB (.int .i64 (n:Int)) ?_
 refine QC (.int .u64 (n:Int)) (fun α=>Eq.trans (b:=some (.int .u64 (IntKind.u64.wrap (n:Int)))) aa (by rw [eZ];congr 2;omega)) ?_
 refine aO (.agg ((bZ n).flatMap c8).toArray) (fun α=>⟨[⟨.int .u64 (n:Int),0,[]⟩],QP,.inl ⟨rfl,n,ab,rfl,rfl⟩,ap rfl⟩) (jr _) ?_
 refine aO (.agg ((bZ n).flatMap c8).toArray) (fun α=>az (f:=c8) (l1:=[3#8]) (l2:=bZ n) al w6 aj aa (nT aa) (by simp only [LL];omega) (by simp only [LL];omega)) rfl ?_
 refine ck (fun xs=>∃ (i:Nat),xs=[.int .i64 (i:Int),.agg (([3#8]++bZ n++(fl.take i).flatMap fb).flatMap c8).toArray]∧i≤n) (fun xs=>match xs with|.int _ i::_=>n-i.toNat|_=>0) (fun α=>⟨0,Eq.trans (b:=[.int .i64 0,.agg ([Value.agg #[w8 3#8],Value.agg ((bZ n).flatMap c8).toArray].flatMap ae).toArray]) aa (by simp [ae,c8]),ab⟩) ?_
 rintro xs-⟨i,rfl,hin⟩
 have hEl:=qJ (l:=fl.take i) (fun z hz=>hfit z (List.mem_of_mem_take hz))
 have hEi:(fl.take i).length≤n:=by rw [List.length_take];omega
 obtain⟨acc,hacc⟩:∃ acc,[3#8]++bZ n++(fl.take i).flatMap fb=acc:=⟨_,rfl⟩
 have hal:acc.length≤1099600000000:=by
  rw [← hacc];simp only [LL];omega
 rw [hacc]
 refine QB (.int .i64 (n:Int)) ?_
 refine QB (.bool (decide ((i:Int)<(n:Int)))) ?_
 refine QD (decide ((i:Int)<(n:Int))) (fun h4=>?_) (fun h4=>?_)
 ·have h4:i<n:=by have:=of_decide_eq_true h4;omega
  obtain⟨z,hz⟩:∃ z,fl[i]?=some z:=⟨_,List.getElem?_eq_getElem ab⟩
  have hzf:=hfit z (List.mem_of_getElem? hz)
  have hzl:=xN hzf
  have htk:[3#8]++bZ n++(fl.take (i+1)).flatMap fb=acc++fb z:=by rw [List.take_add_one,hz,← hacc];simp
  refine QM A n c i hA h4 ?_
  refine aO (jH z) (fun α=>im (f:=aR) (l:=fl) (A:=A) (n:=n) (c:=c) (j:=i) (z:=z) aY hA aa aa h4 ⟨rfl,rfl,rfl⟩ hz) (by cases z<;>rfl) ?_
  refine aO (.agg ((fb z).flatMap c8).toArray) (fun α=>⟨[⟨jH z,0,[]⟩],⟨(by cases z<;>kernel_rfl),aa,trivial⟩,.inr (⟨rfl,z,hzf,rfl,rfl⟩),ap rfl⟩) (jr _) ?_
  refine aO (.agg ((fb z).flatMap c8).toArray) (fun α=>az (f:=c8) (l1:=acc) (l2:=fb z) al w6 aj (bz aa) (nT aa) ab ab) rfl ?_
  refine QC (.int .i64 ((i+1:Nat):Int)) (fun α=>QI i) ?_
  exact bO fun α=>⟨⟨i+1,Eq.trans (b:=[.int .i64 ((i+1:Nat):Int),.agg ([Value.agg (acc.flatMap c8).toArray,Value.agg ((fb z).flatMap c8).toArray].flatMap ae).toArray]) aa (by rw [htk];simp [ae]),ab⟩,cast aa (show n-((i+1:Nat):Int).toNat<n-(i:Int).toNat by omega)⟩
 have h4:i=n:=by have:=of_decide_eq_false h4;omega
 have he:acc=aG fl:=by rw [← hacc,List.take_of_length_le ab];unfold aG;rw [hln];simp
 rw [← he]
 exact aK fun α W _ hrow hS=>⟨hS.below,_,aa,aH.row hS (n:=5) (b:=(⟨[(.x 6 [])],5,(.row 1)⟩:ak)) aa rfl (hrow 5 _ aa) (Eq.trans (b:=[Value.agg (acc.flatMap c8).toArray].flatMap ae) aa (by simp [ae]))⟩
def Qt(K:QV)(f:FuncId)(xs:List SX.Arg)(v:Value):Prop :=
 (f=91∧∃ (u:Value) (fl:List Fl),xs=[⟨.agg #[.int .i64 3,.int .i64 0,.string ⟨#[]⟩,u],0,[]⟩]∧K u 4 (gS fl)∧fl.length≤1048576∧(∀ z∈fl,z.fits)∧v=.int .i64 0) ∨
 (f=92∧∃ (u:Value) (fl:List Fl),xs=[⟨.agg #[.int .i64 3,.int .i64 0,.string ⟨#[]⟩,u],0,[]⟩]∧K u 4 (gS fl)∧fl.length≤1048576∧(∀ z∈fl,z.fits)∧v=.agg ((aG fl).flatMap c8).toArray)
def Og:FuncId→Option SX.Sh:=fun f=>if f=91 then some .one else if f=92 then some (.sl 1)else none
noncomputable def Na(K A:QV):SX.Cx:={ P:=Tryz.prog,R:=Qt,shp:=Og,K:=K,A:=A }
theorem PI(K A:QV):(Na K A).Ok:=by
 refine SX.Cx.b6 al ?_
 intro K f xs v W hR hrd hKf
 rcases hR with ⟨rfl,u,fl,rfl,hku,hl,hfit,rfl⟩|⟨rfl,u,fl,rfl,hku,hl,hfit,rfl⟩
 ·obtain⟨A,n,c,rfl,h2,h3,h4⟩:=jZ (hKf u 4 (gS fl) hku)
  exact(AQ fl A n c W h2 ab h3).mono fun e w' h=>ay rfl h
 obtain⟨A,n,c,rfl,h2,h3,h4⟩:=jZ (hKf u 4 (gS fl) hku)
 exact(Hd fl A n c W h2 ab h3 hfit).mono fun e w' h=>aH.tc rfl h
def uP:SX.Tree :=
(.df (.call 91 [.no]) [(.a [(.k (.int .i64 3)),(.k (.int .i64 0)),(.k (.string ⟨#[]⟩)),(.x 0 [])])] .one
(.df (.bin .neq 32) [(.x 1 []),(.k (.int .i64 0))] .one
(.br 2 []
(.ret (.t [(.k (.slice none 0 0)),(.x 1 [])]) [none] [])
(.df (.call 92 [.no]) [(.a [(.k (.int .i64 3)),(.k (.int .i64 0)),(.k (.string ⟨#[]⟩)),(.x 0 [])])] (.sl 1)
(.ret (.t [(.row 1),(.k (.int .i64 0))]) [none,(some ⟨[(.x 3 [])],0,(.ext 1)⟩)] [])))))
def C3:List SX.V:=[.a [.k (.int .i64 3),.k (.int .i64 0),.k (.string ⟨#[]⟩),.x 0 []]]
theorem HF(K A:QV):QU (Na K A) ⟨fun f=>true,[],2,100⟩ 57 Tryz.f57 C3 [.one]=uP:=aa
theorem kZ(fl:List Fl)(A:Option Addr)(n c:Nat)(w:World)(hr:Rd w 4 A n (gS fl))(hn:n≤1048576)(hc:n≤c)(hfit:∀ z∈fl,z.fits):Calls Tryz.prog 57 #[.agg #[.int .i64 3,.int .i64 0,.string ⟨#[]⟩,.slice A n c]] w fun e w'=>Below w.heap.size w w'∧∃ hdr,e=.returned (.tuple #[hdr,.int .i64 0])∧aH w w' [] hdr 1 ((aG fl).flatMap c8):=by
 refine QG (HF (fun s sz cells=>s=.slice A n c∧sz=4∧cells=gS fl) QW) [.slice A n c] (PI _ _) Tryz.func57 ?_ ?_
 ·rintro W hW s sz cells ⟨rfl,rfl,rfl⟩;exact⟨hr.aJ hW,hc⟩
 have hA:=SX.rd_some hr
 have hln:fl.length=n:=by have:=hr.1;rw [gT]at this;omega
 unfold uP
 refine QC (.int .i64 0) (fun α=>⟨[⟨.agg #[.int .i64 3,.int .i64 0,.string ⟨#[]⟩,.slice A n c],0,[]⟩],QP,.inl ⟨rfl,.slice A n c,fl,rfl,⟨rfl,rfl,rfl⟩,ab,hfit,rfl⟩,ap rfl⟩) ?_
 refine QB (.bool false) ?_
 refine QD false (fun h=>nomatch h) (fun _=>?_)
 refine aO (.agg ((aG fl).flatMap c8).toArray) (fun α=>⟨[⟨.agg #[.int .i64 3,.int .i64 0,.string ⟨#[]⟩,.slice A n c],0,[]⟩],QP,.inr (⟨rfl,.slice A n c,fl,rfl,⟨rfl,rfl,rfl⟩,ab,hfit,rfl⟩),ap rfl⟩) (jr _) ?_
 exact aK fun α W _ hR hS=>⟨hS.below,(α 1).h,aa,aH.vD hS (n:=1) (b:=(⟨[(.x 3 [])],0,(.ext 1)⟩:ak)) aa rfl (hR 1 _ aa) (Eq.trans (b:=[Value.agg ((aG fl).flatMap c8).toArray].flatMap ae) aa (by simp [ae])) (fun W2 s z xs hk=>nomatch hk) (fun B s z xs hk=>nomatch hk)⟩
def qy:List SX.V:=[.x 0 [],.x 1 []]
def mU:SX.Tree :=
(.df (.call 54 [.no,(.ext 1)]) [(.q 0),(.q 1)] (.ag 32)
(.df (.conv .i64) [(.x 2 [0])] .one
(.df (.bin .rem 3) [(.q 3),(.i 128)] .one
(.df (.bin .mul 3) [(.q 4),(.i 256)] .one
(.df (.conv .i64) [(.x 2 [1])] .one
(.df (.bin .add 3) [(.q 5),(.q 6)] .one
(.df (.bin .mul 3) [(.q 7),(.i 256)] .one
(.df (.conv .i64) [(.x 2 [2])] .one
(.df (.bin .add 3) [(.q 8),(.q 9)] .one
(.df (.bin .mul 3) [(.q 10),(.i 256)] .one
(.df (.conv .i64) [(.x 2 [3])] .one
(.df (.bin .add 3) [(.q 11),(.q 12)] .one
(.df (.bin .mul 3) [(.q 13),(.i 256)] .one
(.df (.conv .i64) [(.x 2 [4])] .one
(.df (.bin .add 3) [(.q 14),(.q 15)] .one
(.df (.bin .mul 3) [(.q 16),(.i 256)] .one
(.df (.conv .i64) [(.x 2 [5])] .one
(.df (.bin .add 3) [(.q 17),(.q 18)] .one
(.df (.bin .mul 3) [(.q 19),(.i 256)] .one
(.df (.conv .i64) [(.x 2 [6])] .one
(.df (.bin .add 3) [(.q 20),(.q 21)] .one
(.df (.bin .mul 3) [(.q 22),(.i 256)] .one
(.df (.conv .i64) [(.x 2 [7])] .one
(.df (.bin .add 3) [(.q 23),(.q 24)] .one
(.df (.bin .rem 3) [(.q 25),(.i 1073741789)] .one
(.ret (.q 26) [] []))))))))))))))))))))))))))
theorem EQ(K A:QV):QU (O0 K A) ⟨fun _=>true,[],0,100⟩ 61 Tryz.f61 qy [.one,.one]=mU:=aa
theorem j0{a b d:Nat}(h:a+b=d)(ha:d<2 ^ 63):aZ .add (.int .i64 (a:Int)) (.int .i64 (b:Int))=some (.int .i64 (d:Int)):=by
 simp only [aZ,om,if_true]
 rw [wrap_i64 ab ab]
 congr 2
 omega
theorem uu(s:ByteArray)(l:List W8)(hs:s.size<2 ^ 44)(hl:l.length<2 ^ 44)(A:Option Addr)(n c:Nat)(w:World)(hr:Rd w 1 A n (l.flatMap c8))(hc:n≤c):RT 61 #[.string s,.slice A n c] w (.int .i64 (nz (kg (sb s) l):Int)):=by
 refine b8 (C:=O0 (fun v z xs=>v=.slice A n c∧z=1∧xs=l.flatMap c8) QW) (G:=⟨fun _=>true,[],0,100⟩) (args:=qy) (sh:=[.one,.one]) (ρ:=[.string s,.slice A n c]) 100000 mU (Lj _ _) Tryz.func61 rfl (cast aa (EQ (fun v z xs=>v=.slice A n c∧z=1∧xs=l.flatMap c8) QW)) aa aa aa (fun W hW v z xs ⟨h1,h2,h3⟩=>by subst h1;subst h2;subst h3;exact⟨hr.aJ hW,hc⟩) ?_
 unfold mU
 obtain⟨g,hg⟩:=ub (n:=32) (kg (sb s) l) rfl
 refine QC (.agg (((List.range 32).map g).flatMap c8).toArray) (fun α=>by rw [← hg];exact⟨[⟨.string s,0,[]⟩,⟨.slice A n c,1,l.flatMap c8⟩],⟨aa,aa,aa,aa,⟨rfl,rfl,rfl⟩,trivial⟩,⟨rfl,s,_,l,rfl,hs,hl,rfl⟩,ap rfl⟩) ?_
 have l0:=(g 0).isLt
 have l1:=(g 1).isLt
 have l2:=(g 2).isLt
 have l3:=(g 3).isLt
 have l4:=(g 4).isLt
 have l5:=(g 5).isLt
 have l6:=(g 6).isLt
 have l7:=(g 7).isLt
 obtain⟨n0,hn0⟩:∃ z,z=(g 0).toNat % 128:=⟨_,rfl⟩
 obtain⟨n1,hn1⟩:∃ z,z=n0*256+(g 1).toNat:=⟨_,rfl⟩
 obtain⟨n2,hn2⟩:∃ z,z=n1*256+(g 2).toNat:=⟨_,rfl⟩
 obtain⟨n3,hn3⟩:∃ z,z=n2*256+(g 3).toNat:=⟨_,rfl⟩
 obtain⟨n4,hn4⟩:∃ z,z=n3*256+(g 4).toNat:=⟨_,rfl⟩
 obtain⟨n5,hn5⟩:∃ z,z=n4*256+(g 5).toNat:=⟨_,rfl⟩
 obtain⟨n6,hn6⟩:∃ z,z=n5*256+(g 6).toNat:=⟨_,rfl⟩
 obtain⟨n7,hn7⟩:∃ z,z=n6*256+(g 7).toNat:=⟨_,rfl⟩
 refine QF (.int .i64 ((g 0).toNat:Int)) (dz (g 0)) ?_
 refine QF (.int .i64 (n0:Int)) (show aZ .rem (.int .i64 ((g 0).toNat:Int)) (.int .i64 128)=some (.int .i64 (n0:Int)) from by rw [L3,hn0]) ?_
 refine QF (.int .i64 ((n0*256:Nat):Int)) (mI n0 ab) ?_
 refine QF (.int .i64 ((g 1).toNat:Int)) (dz (g 1)) ?_
 refine QF (.int .i64 (n1:Int)) (j0 (a:=n0*256) (b:=(g 1).toNat) (d:=n1) ab ab) ?_
 refine QF (.int .i64 ((n1*256:Nat):Int)) (mI n1 ab) ?_
 refine QF (.int .i64 ((g 2).toNat:Int)) (dz (g 2)) ?_
 refine QF (.int .i64 (n2:Int)) (j0 (a:=n1*256) (b:=(g 2).toNat) (d:=n2) ab ab) ?_
 refine QF (.int .i64 ((n2*256:Nat):Int)) (mI n2 ab) ?_
 refine QF (.int .i64 ((g 3).toNat:Int)) (dz (g 3)) ?_
 refine QF (.int .i64 (n3:Int)) (j0 (a:=n2*256) (b:=(g 3).toNat) (d:=n3) ab ab) ?_
 refine QF (.int .i64 ((n3*256:Nat):Int)) (mI n3 ab) ?_
 refine QF (.int .i64 ((g 4).toNat:Int)) (dz (g 4)) ?_
 refine QF (.int .i64 (n4:Int)) (j0 (a:=n3*256) (b:=(g 4).toNat) (d:=n4) ab ab) ?_
 refine QF (.int .i64 ((n4*256:Nat):Int)) (mI n4 ab) ?_
 refine QF (.int .i64 ((g 5).toNat:Int)) (dz (g 5)) ?_
 refine QF (.int .i64 (n5:Int)) (j0 (a:=n4*256) (b:=(g 5).toNat) (d:=n5) ab ab) ?_
 refine QF (.int .i64 ((n5*256:Nat):Int)) (mI n5 ab) ?_
 refine QF (.int .i64 ((g 6).toNat:Int)) (dz (g 6)) ?_
 refine QF (.int .i64 (n6:Int)) (j0 (a:=n5*256) (b:=(g 6).toNat) (d:=n6) ab ab) ?_
 refine QF (.int .i64 ((n6*256:Nat):Int)) (mI n6 ab) ?_
 refine QF (.int .i64 ((g 7).toNat:Int)) (dz (g 7)) ?_
 refine QF (.int .i64 (n7:Int)) (j0 (a:=n6*256) (b:=(g 7).toNat) (d:=n7) ab ab) ?_
 refine QF (.int .i64 ((n7 % 1073741789:Nat):Int)) (NN n7) ?_
 have hN:nz (kg (sb s) l)=n7 % 1073741789:=by rw [hg];subst hn7 hn6 hn5 hn4 hn3 hn2 hn1 hn0;rfl
 exact aK fun α W _ _ hS=>ji (x:=.int .i64 ((n7 % 1073741789:Nat):Int)) hS aa (by rw [hN])
end Go.Proofs.YtidekfgkpindbaaGreatDoor
namespace Go.Proofs.YtidekfgkpindbaaGreatDoor
open Go.RowKit SX
def Mu(a n:Nat)(x m c:Value):Prop:=∃ x' m' c':Nat,Jac.xi a n c' x' m'∧m'≤n∧x=.int .i64 x'∧m=.int .i64 m'∧c=.int .i64 c'
set_option maxHeartbeats 400000 in
theorem Eh(a n:Nat)(w:World)(h:a<2147483579)(hn:n≤9223372036854775807) :
 Calls Tryz.prog 93 #[.int .i64 a,.int .i64 n] w fun e w'=>e=.returned (.int .i64 (Jac.pm a n))∧w=w':=by
 go_enter Tryz.func93,Tryz.ntmps93
 go_wp2
 go_loop [0,1,5] (fun u v z=>Mu a n u v z) (fun _ v _=>(intOf v).toNat)
 case atStart=>exact⟨a,n,1,Jac.rz h,Nat.le_refl _,rfl,rfl,rfl⟩
 case round =>
  obtain⟨x,m,c,hi,hmn,rfl,rfl,rfl⟩:=hrel
  have hc:=hi.1
  have hx:=hi.2.1
  have HI:=Lib.hid hi
  clear hi
  have b1:c*x≤2147483578*2147483578:=Nat.mul_le_mul ab ab
  have b2:x*x≤2147483578*2147483578:=Nat.mul_le_mul ab ab
  by_cases h0:0<m
  ·go_wp2
   all_goals simp only [beq_iff_eq,beq_eq_false_iff_ne,ne_eq]at *
   ·exact⟨⟨_,_,_,Jac.yA HI.out ab,ab,rfl,rfl,rfl⟩,by simp [intOf];omega⟩
   exact⟨⟨_,_,_,Jac.ul HI.out ab,ab,rfl,rfl,rfl⟩,by simp [intOf];omega⟩
  go_wp2
  obtain rfl:m=0:=ab
  go_ret
  exact⟨wx (by rw [Jac.yz HI.out]),rfl⟩
theorem uo(a n:Int)(w:World)(h0:0≤a)(h:a<2147483579)(hn:0≤n)(hn':n≤9223372036854775807) :
 Calls Tryz.prog 93 #[.int .i64 a,.int .i64 n] w fun e w'=>e=.returned (.int .i64 (Jac.pm a.toNat n.toNat))∧w=w':=by
 have:=Eh a.toNat n.toNat w ab ab
 rwa [Int.toNat_of_nonneg h0,Int.toNat_of_nonneg hn]at this
theorem kd(x:Int)(w:World) :
 Calls Tryz.prog 72 #[.int .i64 x] w fun e w'=>e=.returned (.bool (Jac.fi x))∧w=w':=by
 by_cases h:x<1∨2147483579≤x
 ·have hv:Hid (Jac.fi x=false):=Lib.hid (Jac.wT ab)
  rcases h with h|h
  ·go_enter Tryz.func72,Tryz.ntmps72
   go_wp2
   go_ret
   exact⟨iE hv.out.symm,rfl⟩
  go_enter Tryz.func72,Tryz.ntmps72
  go_wp2
  go_ret
  exact⟨iE hv.out.symm,rfl⟩
 have hv:=Lib.hid (Jac.IB (x:=x) ab ab)
 go_enter Tryz.func72,Tryz.ntmps72
 go_wp2_with (go_at_call 93;refine(uo _ _ _ ab ab ab ab).mono ?_;rintro e w' ⟨rfl,rfl⟩)
 go_ret
 exact⟨iE (by rw [hv.out];rfl),rfl⟩
theorem vC(n:Int)(w:World) :
 Calls Tryz.prog 94 #[.int .i64 n] w fun e w'=>e=.returned (.int .i64 (Jac.w7 n))∧w=w':=by
 have h1:=Int.tmod_lt_of_pos n (b:=1073741789) ab
 have h2:=Jac.nV n
 have HR:=Lib.hid (Jac.AU n)
 go_enter Tryz.func94,Tryz.ntmps94
 go_wp2
 ·go_ret
  exact⟨wx (by rw [HR.out,if_pos (by assumption)]),rfl⟩
 go_ret
 exact⟨wx (by rw [HR.out,if_neg ab]),rfl⟩
theorem Hh(a b:Int)(w:World) :
 Calls Tryz.prog 101 #[.int .i64 a,.int .i64 b] w fun e w'=>e=.returned (.tuple #[.int .i64 (Jac.er a b),.int .i64 (Jac.gh a b)])∧w=w':=by
 rcases Jac.uf a b with ⟨ha,hm⟩|⟨ha,hb,hm⟩|⟨ha,hb,ba,bb,bm,hm⟩
 all_goals
  have HM:=Lib.hid hm
  clear hm
  try (have ba1:=ba.1;have ba2:=ba.2;have bb1:=bb.1;have bb2:=bb.2)
  go_enter Tryz.func101,Tryz.ntmps101
  go_wp2_with (go_at_call 72;refine(kd _ _).mono ?_;rintro e w' ⟨rfl,rfl⟩)
  go_ret2
  exact⟨rO HM.out.1.symm HM.out.2.symm,rfl⟩
theorem yM(a n:Int)(w:World) :
 Calls Tryz.prog 62 #[.int .i64 a,.int .i64 n] w fun e w'=>e=.returned (.tuple #[.int .i64 (Jac.aN a n),.int .i64 (Jac.gh a a)])∧w=w':=by
 have hr:=Jac.mP n
 have hr1:=hr.1
 have hr2:=hr.2
 clear hr
 rcases Jac.oI a n with ⟨ha,hm⟩|⟨ha,ba1,ba2,hm⟩
 all_goals
  have HM:=Lib.hid hm
  clear hm
  go_enter Tryz.func62,Tryz.ntmps62
  go_wp2_with (first|(go_at_call 72;refine(kd _ _).mono ?_;rintro e w' ⟨rfl,rfl⟩)|(go_at_call 94;refine(vC _ _).mono ?_;rintro e w' ⟨rfl,rfl⟩)|(go_at_call 93;refine(uo _ _ _ ab ab ab ab).mono ?_;rintro e w' ⟨rfl,rfl⟩))
  go_ret2
  exact⟨rO HM.out.1.symm HM.out.2.symm,rfl⟩
def gV(n:Int):Int:=n % 1073741789
theorem Ci(n:Int):0≤gV n∧gV n<1073741789:=by unfold gV;omega
theorem NO(x:Int):aZ .rem (.int .i64 x) (.int .i64 1073741789)=some (.int .i64 (x.tmod 1073741789)):=by
 simp only [aZ,if_true]
 rw [if_neg aj]
theorem Cj(n:Int):gV n=if n.tmod 1073741789<0 then n.tmod 1073741789+1073741789 else n.tmod 1073741789:=Jac.AU n
def zj:SX.Tree :=
(.df (.bin .rem 3) [(.q 0),(.i 1073741789)] .one
(.df (.bin .lss 3) [(.q 1),(.i 0)] .one
(.br 2 []
(.df (.bin .add 3) [(.q 1),(.i 1073741789)] .one
(.ret (.q 3) [] []))
(.ret (.q 1) [] []))))
def FG:List SX.V:=[.x 0 []]
theorem J4(K A:QV):QU (sU K A) ⟨fun f=>true,[],0,100⟩ 95 Tryz.f95 FG [.one]=zj:=aa
theorem JI(n:Int)(w:World)  : RT 95 #[.int .i64 n] w (.int .i64 (gV n)):=by
 refine QG (J4 QW QW) [.int .i64 n] (fo _ _) Tryz.func95 ?_ ?_
 ·exact fun W _=>cD (fun _ _ _ h=>h) W
 have t1:=Jac.nV n
 have t2:=Int.tmod_lt_of_pos n (b:=1073741789) ab
 unfold zj
 refine QC (.int .i64 ((n.tmod 1073741789))) (fun α=>Eq.trans (b:=aZ .rem (.int .i64 n) (.int .i64 1073741789)) aa (NO n)) ?_
 refine QB (.bool (decide ((n.tmod 1073741789)<0))) ?_
 refine QD (decide ((n.tmod 1073741789)<0)) (fun h2=>?_) (fun h2=>?_)
 ·try simp only [cb]at h2
  refine QC (.int .i64 (((n.tmod 1073741789))+1073741789)) (fun α=>QH (((n.tmod 1073741789))+1073741789)) ?_
  exact QE (.int .i64 (((n.tmod 1073741789))+1073741789)) (by rw [Cj];split<;>first|rfl|omega)
 try simp only [cb]at h2
 exact QE (.int .i64 ((n.tmod 1073741789))) (by rw [Cj];split<;>first|rfl|omega)
def Qk(f:FuncId)(xs:List SX.Arg)(v:Value):Prop :=
 (f=95∧∃ n:Int,xs=[⟨.int .i64 n,0,[]⟩]∧v=.int .i64 (gV n))
def N4:FuncId→Option SX.Sh:=fun f=>if f=95 then some .one else none
noncomputable def M0(K A:QV):SX.Cx:={ P:=Tryz.prog,R:=fun _=>Qk,shp:=N4,K:=K,A:=A }
theorem Pt(K A:QV):(M0 K A).Ok:=by
 refine SX.Cx.b6 al ?_
 intro K f xs v W hR hrd hKf
 rcases hR with ⟨rfl,n,rfl,rfl⟩
 exact(JI n W).mono fun e w' h=>ay rfl h
def pL:SX.Tree :=
(.df (.call 95 [.no]) [(.q 0)] .one
(.df (.call 95 [.no]) [(.q 1)] .one
(.df (.bin .mul 3) [(.q 2),(.q 3)] .one
(.df (.bin .rem 3) [(.q 4),(.i 1073741789)] .one
(.ret (.q 5) [] [])))))
def xB:List SX.V:=[.x 0 [],.x 1 []]
theorem Br(K A:QV):QU (M0 K A) ⟨fun f=>true,[],0,100⟩ 64 Tryz.f64 xB [.one,.one]=pL:=aa
theorem rS(a b:Int)(w:World)  : RT 64 #[.int .i64 a,.int .i64 b] w (.int .i64 (gV a*gV b % 1073741789)):=by
 refine QG (Br QW QW) [.int .i64 a,.int .i64 b] (Pt _ _) Tryz.func64 ?_ ?_
 ·exact fun W _=>cD (fun _ _ _ h=>h) W
 have m1:=Ci a
 have m2:=Ci b
 unfold pL
 refine QC (.int .i64 ((gV a))) (fun α=>⟨[⟨.int .i64 a,0,[]⟩],QP,⟨rfl,_,rfl,rfl⟩,ap rfl⟩) ?_
 refine QC (.int .i64 ((gV b))) (fun α=>⟨[⟨.int .i64 b,0,[]⟩],QP,⟨rfl,_,rfl,rfl⟩,ap rfl⟩) ?_
 refine QC (.int .i64 (gV a*gV b)) (fun α=>Eq.trans (b:=some (.int .i64 (IntKind.i64.wrap (gV a*gV b)))) aa (by have:=yn m1.1 m1.2 m2.1 m2.2;rw [wrap_i64 ab ab])) ?_
 refine QC (.int .i64 ((gV a*gV b) % 1073741789)) (fun α=>Eq.trans (b:=aZ .rem (.int .i64 (gV a*gV b)) (.int .i64 1073741789)) aa (Cs (yn m1.1 m1.2 m2.1 m2.2).1)) ?_
 exact QE (.int .i64 ((gV a*gV b) % 1073741789)) (rfl)
def Qu(K:QV)(f:FuncId)(xs:List SX.Arg)(v:Value):Prop :=
 (f=57∧∃ (hdr:Value) (fl:List Fl),xs=[⟨.agg #[.int .i64 3,.int .i64 0,.string ⟨#[]⟩,hdr],0,[]⟩]∧K hdr 4 (gS fl)∧fl.length≤1048576∧(∀ z∈fl,z.fits)∧v=.tuple #[.agg ((aG fl).flatMap c8).toArray,.int .i64 0]) ∨
 (f=61∧∃ (s:ByteArray) (u:Value) (l:List W8),xs=[⟨.string s,0,[]⟩,⟨u,1,l.flatMap c8⟩]∧s.size<2 ^ 44∧l.length<2 ^ 44∧v=.int .i64 (nz (kg (sb s) l):Int)) ∨
 (f=62∧∃ a n:Int,xs=[⟨.int .i64 a,0,[]⟩,⟨.int .i64 n,0,[]⟩]∧v=.tuple #[.int .i64 (Jac.aN a n),.int .i64 (Jac.gh a a)]) ∨
 (f=101∧∃ a n:Int,xs=[⟨.int .i64 a,0,[]⟩,⟨.int .i64 n,0,[]⟩]∧v=.tuple #[.int .i64 (Jac.er a n),.int .i64 (Jac.gh a n)]) ∨
 (f=72∧∃ x:Int,xs=[⟨.int .i64 x,0,[]⟩]∧v=.bool (Jac.fi x)) ∨
 (f=64∧∃ a b:Int,xs=[⟨.int .i64 a,0,[]⟩,⟨.int .i64 b,0,[]⟩]∧v=.int .i64 (gV a*gV b % 1073741789))
def Oh:FuncId→Option SX.Sh:=fun f=>if f=57 then some (.tp [.sl 1,.one])else if f=61 then some .one else if f=62 then some (.tp [.one,.one])else if f=101 then some (.tp [.one,.one])else if f=72 then some .one else if f=64 then some .one else none
noncomputable def Lm(K A:QV):SX.Cx:={ P:=Tryz.prog,R:=Qu,shp:=Oh,K:=K,A:=A,trm:=true }
theorem ND(K A:QV):(Lm K A).Ok:=by
 refine SX.Cx.b6 al ?_
 intro K f xs v W hR hrd hKf
 rcases hR with ⟨rfl,hdr,fl,rfl,hk,hl,hf,rfl⟩|⟨rfl,s,u,l,rfl,hs,hl,rfl⟩|⟨rfl,a,n,rfl,rfl⟩|⟨rfl,a,n,rfl,rfl⟩|⟨rfl,x,rfl,rfl⟩|⟨rfl,a,b,rfl,rfl⟩
 ·obtain⟨A,n,c,rfl,h2,h3,h4⟩:=jZ (hKf _ _ _ hk)
  exact Calls.mono (kZ fl A n c W h2 ab h3 hf) fun e w' h=>aH.OA rfl h
 ·obtain⟨A,n,c,rfl,hr,hc,-⟩:=cT (hrd ⟨u,1,l.flatMap c8⟩ ai)
  exact(uu s l hs hl A n c W hr hc).mono fun e w' h=>ay rfl h
 ·exact(yM a n W).mono fun e w' h=>ay rfl ⟨h.1,h.2▸Below.refl _ _⟩
 ·exact(Hh a n W).mono fun e w' h=>ay rfl ⟨h.1,h.2▸Below.refl _ _⟩
 ·exact(kd x W).mono fun e w' h=>ay rfl ⟨h.1,h.2▸Below.refl _ _⟩
 exact(rS a b W).mono fun e w' h=>ay rfl h
def pK:SX.Tree :=
(.df .b2sx [(.q 2)] .one
(.df (.callg 57 [.no] [(.own 4 [(.i 1),(.q 0),(.k (.string ⟨#[]⟩)),(.k (.slice none 0 0)),(.i 1),(.q 1),(.k (.string ⟨#[]⟩)),(.k (.slice none 0 0)),(.i 2),(.i 0),(.q 3),(.k (.slice none 0 0))])]) [(.a [(.i 3),(.i 0),(.k (.string ⟨#[]⟩)),(.sl 7 0 3 3)]),(.sl 7 0 3 3)] (.tp [(.sl 1),.one])
(.df (.call 61 [.no,(.row 1 [(.x 4 [0])])]) [(.k (.string ⟨#[115,105,103,110]⟩)),(.row 9)] .one
(.ret (.q 5) [] []))))
def xA:List SX.V:=[.x 0 [],.x 1 [],.x 2 []]
theorem Bq(K A:QV):QU (Lm K A) ⟨fun f=>true,[],0,100⟩ 63 Tryz.f63 xA [.one,.one,.one]=pK:=aa
theorem A9(r key:Int)(tx:ByteArray)(A:Option Addr)(n c:Nat)(w:World)(b1 : -9223372036854775808≤r)(b2:r≤9223372036854775807)(b3 : -9223372036854775808≤key)(b4:key≤9223372036854775807)(hr:Rd w 1 A n ((sb tx).flatMap c8))(hc:n≤c)(htx:tx.size≤1048576):RT 63 #[.int .i64 r,.int .i64 key,.slice A n c] w (.int .i64 (gl r key tx)):=by
 refine QG (Bq (fun s sz cells=>s=.slice A n c∧sz=1∧cells=(sb tx).flatMap c8) QW) [.int .i64 r,.int .i64 key,.slice A n c] (ND _ _) Tryz.func63 ?_ ?_
 ·rintro W hW s sz cells ⟨rfl,rfl,rfl⟩;exact⟨hr.aJ hW,hc⟩
 unfold pK
 refine QC (.string tx) (fun α=>⟨tx.data.toList,A,n,c,by rw [th];exact⟨rfl,rfl,rfl⟩,aa,ai⟩) ?_
 refine aO (.tuple #[Value.agg ((aG [.n r,.n key,.s tx]).flatMap c8).toArray,.int .i64 0]) (fun α=>⟨[⟨.agg #[.int .i64 3,.int .i64 0,.string ⟨#[]⟩,.slice (some ⟨(α 7).b,0,none⟩) 3 3],0,[]⟩],[⟨.slice (some ⟨(α 7).b,0,none⟩) 3 3,4,gS [.n r,.n key,.s tx]⟩],QP,QO,.inl ⟨rfl,_,[.n r,.n key,.s tx],rfl,.inr ai,ai,by intro z hz;simp only [List.mem_cons,List.not_mem_nil,or_false]at hz;rcases hz with rfl|rfl|rfl<;>simp only [Fl.fits]<;>omega,rfl⟩,ap rfl⟩) ((lJ _ _)) ?_
 refine QC (.int .i64 ((dq dI [.n r,.n key,.s tx]))) (fun α=>⟨[⟨.string dI,0,[]⟩,⟨(α 9).h,1,(aG [.n r,.n key,.s tx]).flatMap c8⟩],⟨aa,aa,Eq.trans (b:=(⟨(α 9).h,1,[Value.agg ((aG [.n r,.n key,.s tx]).flatMap c8).toArray].flatMap ae⟩:SX.Arg)) (by simp [ae]) aa,trivial⟩,.inr (.inl ⟨rfl,dI,_,aG [.n r,.n key,.s tx],rfl,aj,fe (by intro z hz;simp only [List.mem_cons,List.not_mem_nil,or_false]at hz;rcases hz with rfl|rfl|rfl<;>simp only [Fl.fits]<;>omega) ai,rfl⟩),ap rfl⟩) ?_
 exact QE (.int .i64 ((dq dI [.n r,.n key,.s tx]))) (rfl)
def pJ:SX.Tree :=
(.df (.call 62 [.no,.no]) [(.i 4),(.q 2)] (.tp [.one,.one])
(.df .neg [(.q 1)] .one
(.df (.call 62 [.no,.no]) [(.q 0),(.q 4)] (.tp [.one,.one])
(.df (.call 101 [.no,.no]) [(.x 3 [0]),(.x 5 [0])] (.tp [.one,.one])
(.ret (.x 6 [0]) [] [])))))
def xz:List SX.V:=[.x 0 [],.a [.x 1 [],.x 2 []]]
theorem Bp(K A:QV):QU (Lm K A) ⟨fun f=>true,[],0,100⟩ 73 Tryz.f73 xz (List.replicate 3 .one)=pJ:=aa
theorem A8(key E S:Int)(w:World)(h1:0≤E)(h2:E<1073741789):RT 73 #[.int .i64 key,.agg #[.int .i64 E,.int .i64 S]] w (.int .i64 (Jac.er (Jac.aN 4 S) (Jac.aN key (-E)))):=by
 refine QG (Bp QW QW) [.int .i64 key,.int .i64 E,.int .i64 S] (ND _ _) Tryz.func73 ?_ ?_
 ·exact fun W _=>cD (fun _ _ _ h=>h) W
 unfold pJ
 refine QC (.tuple #[.int .i64 ((Jac.aN 4 S)),.int .i64 ((Jac.gh 4 4))]) (fun α=>⟨[⟨.int .i64 4,0,[]⟩,⟨.int .i64 S,0,[]⟩],QQ,.inr (.inr (.inl ⟨rfl,_,_,rfl,rfl⟩)),ap rfl⟩) ?_
 refine QC (.int .i64 ((-E))) (fun α=>QH (-E)) ?_
 refine QC (.tuple #[.int .i64 ((Jac.aN key ((-E)))),.int .i64 ((Jac.gh key key))]) (fun α=>⟨[⟨.int .i64 key,0,[]⟩,⟨.int .i64 ((-E)),0,[]⟩],QQ,.inr (.inr (.inl ⟨rfl,_,_,rfl,rfl⟩)),ap rfl⟩) ?_
 refine QC (.tuple #[.int .i64 ((Jac.er ((Jac.aN 4 S)) ((Jac.aN key ((-E)))))),.int .i64 ((Jac.gh ((Jac.aN 4 S)) ((Jac.aN key ((-E))))))]) (fun α=>⟨[⟨.int .i64 ((Jac.aN 4 S)),0,[]⟩,⟨.int .i64 ((Jac.aN key ((-E)))),0,[]⟩],QQ,.inr (.inr (.inr (.inl ⟨rfl,_,_,rfl,rfl⟩))),ap rfl⟩) ?_
 exact QE (.int .i64 ((Jac.er ((Jac.aN 4 S)) ((Jac.aN key ((-E))))))) (rfl)
def Qv(K:QV)(f:FuncId)(xs:List SX.Arg)(v:Value):Prop :=
 (f=57∧∃ (hdr:Value) (fl:List Fl),xs=[⟨.agg #[.int .i64 3,.int .i64 0,.string ⟨#[]⟩,hdr],0,[]⟩]∧K hdr 4 (gS fl)∧fl.length≤1048576∧(∀ z∈fl,z.fits)∧v=.tuple #[.agg ((aG fl).flatMap c8).toArray,.int .i64 0]) ∨
 (f=61∧∃ (s:ByteArray) (u:Value) (l:List W8),xs=[⟨.string s,0,[]⟩,⟨u,1,l.flatMap c8⟩]∧s.size<2 ^ 44∧l.length<2 ^ 44∧v=.int .i64 (nz (kg (sb s) l):Int)) ∨
 (f=62∧∃ a n:Int,xs=[⟨.int .i64 a,0,[]⟩,⟨.int .i64 n,0,[]⟩]∧v=.tuple #[.int .i64 (Jac.aN a n),.int .i64 (Jac.gh a a)]) ∨
 (f=72∧∃ x:Int,xs=[⟨.int .i64 x,0,[]⟩]∧v=.bool (Jac.fi x)) ∨
 (f=64∧∃ a b:Int,xs=[⟨.int .i64 a,0,[]⟩,⟨.int .i64 b,0,[]⟩]∧v=.int .i64 (gV a*gV b % 1073741789)) ∨
 (f=63∧∃ (r key:Int) (u:Value) (tx:ByteArray),xs=[⟨.int .i64 r,0,[]⟩,⟨.int .i64 key,0,[]⟩,⟨u,1,(sb tx).flatMap c8⟩]∧tx.size≤1048576∧(-9223372036854775808≤r∧r≤9223372036854775807∧-9223372036854775808≤key∧key≤9223372036854775807)∧v=.int .i64 (gl r key tx)) ∨
 (f=73∧∃ key E S:Int,xs=[⟨.int .i64 key,0,[]⟩,⟨.agg #[.int .i64 E,.int .i64 S],0,[]⟩]∧0≤E∧E<1073741789∧v=.int .i64 (Jac.er (Jac.aN 4 S) (Jac.aN key (-E))))
def Oi:FuncId→Option SX.Sh:=fun f=>if f=57 then some (.tp [.sl 1,.one])else if f=61 then some .one else if f=62 then some (.tp [.one,.one])else if f=72 then some .one else if f=64 then some .one else if f=63 then some .one else if f=73 then some .one else none
noncomputable def Nb(K A:QV):SX.Cx:={ P:=Tryz.prog,R:=Qv,shp:=Oi,K:=K,A:=A,trm:=true }
theorem PJ(K A:QV):(Nb K A).Ok:=by
 refine SX.Cx.b6 al ?_
 intro K f xs v W hR hrd hKf
 rcases hR with ⟨rfl,hdr,fl,rfl,hk,hl,hf,rfl⟩|⟨rfl,s,u,l,rfl,hs,hl,rfl⟩|⟨rfl,a,n,rfl,rfl⟩|⟨rfl,x,rfl,rfl⟩|⟨rfl,a,b,rfl,rfl⟩|⟨rfl,r,key,u,tx,rfl,htx,⟨b1,b2,b3,b4⟩,rfl⟩|⟨rfl,key,E,S,rfl,h1,h2,rfl⟩
 ·obtain⟨A,n,c,rfl,h2,h3,h4⟩:=jZ (hKf _ _ _ hk)
  exact Calls.mono (kZ fl A n c W h2 ab h3 hf) fun e w' h=>aH.OA rfl h
 ·obtain⟨A,n,c,rfl,hr,hc,-⟩:=cT (hrd ⟨u,1,l.flatMap c8⟩ ai)
  exact(uu s l hs hl A n c W hr hc).mono fun e w' h=>ay rfl h
 ·exact(yM a n W).mono fun e w' h=>ay rfl ⟨h.1,h.2▸Below.refl _ _⟩
 ·exact(kd x W).mono fun e w' h=>ay rfl ⟨h.1,h.2▸Below.refl _ _⟩
 ·exact(rS a b W).mono fun e w' h=>ay rfl h
 ·obtain⟨A,n,c,rfl,hr,hc,-⟩:=cT (hrd ⟨u,1,(sb tx).flatMap c8⟩ ai)
  exact(A9 r key tx A n c W b1 b2 b3 b4 hr hc htx).mono fun e w' h=>ay rfl h
 exact(A8 key E S W h1 h2).mono fun e w' h=>ay rfl h
def n9:SX.Tree :=
(.df (.call 72 [.no]) [(.q 0)] .one
(.df .not [(.q 4)] .one
(.br 5 []
(.ret (.k (.bool false)) [] [])
(.df (.bin .lss 3) [(.q 2),(.i 0)] .one
(.br 6 []
(.ret (.k (.bool false)) [] [])
(.df (.bin .geq 3) [(.q 2),(.i 1073741789)] .one
(.br 7 []
(.ret (.k (.bool false)) [] [])
(.df (.bin .lss 3) [(.q 3),(.i 0)] .one
(.br 8 []
(.ret (.k (.bool false)) [] [])
(.df (.bin .geq 3) [(.q 3),(.i 1073741789)] .one
(.br 9 []
(.ret (.k (.bool false)) [] [])
(.df (.call 73 [.no,.no]) [(.q 0),(.a [(.q 2),(.q 3)])] .one
(.df (.call 63 [.no,.no,(.ext 1)]) [(.q 10),(.q 0),(.q 1)] .one
(.df (.bin .eql 3) [(.q 2),(.q 11)] .one
(.ret (.q 12) [] [])))))))))))))))
def vo:List SX.V:=[.x 0 [],.x 1 [],.a [.x 2 [],.x 3 []]]
theorem y0(K A:QV):QU (Nb K A) ⟨fun f=>true,[],0,100⟩ 38 Tryz.f38 vo (List.replicate 4 .one)=n9:=aa
theorem y4(key:Int)(tx:ByteArray)(A:Option Addr)(n c:Nat)(E S:Int)(w:World)(hr:Rd w 1 A n ((sb tx).flatMap c8))(hc:n≤c)(htx:tx.size≤1048576):RT 38 #[.int .i64 key,.slice A n c,.agg #[.int .i64 E,.int .i64 S]] w (.bool (gn key tx E S)):=by
 refine QG (y0 (fun s sz cells=>s=.slice A n c∧sz=1∧cells=(sb tx).flatMap c8) QW) [.int .i64 key,.slice A n c,.int .i64 E,.int .i64 S] (PJ _ _) Tryz.func38 ?_ ?_
 ·rintro W hW s sz cells ⟨rfl,rfl,rfl⟩;exact⟨hr.aJ hW,hc⟩
 unfold n9
 refine QC (.bool (Jac.fi key)) (fun α=>⟨[⟨.int .i64 key,0,[]⟩],QP,.inr (.inr (.inr (.inl ⟨rfl,_,rfl,rfl⟩))),ap rfl⟩) ?_
 refine QB (.bool (!(Jac.fi key))) ?_
 refine QD (!(Jac.fi key)) (fun h5=>?_) (fun h5=>?_)
 ·try simp only [cb]at h5
  exact QE (.bool false) (by unfold gn;rw [if_pos (by first|omega|(right;right;right;right;simpa using h5))])
 try simp only [cb]at h5
 refine QB (.bool (decide (E<0))) ?_
 refine QD (decide (E<0)) (fun h6=>?_) (fun h6=>?_)
 ·try simp only [cb]at h6
  exact QE (.bool false) (by unfold gn;rw [if_pos (by first|omega|(right;right;right;right;simpa using h5))])
 try simp only [cb]at h6
 refine QB (.bool (decide (E≥1073741789))) ?_
 refine QD (decide (E≥1073741789)) (fun h7=>?_) (fun h7=>?_)
 ·try simp only [cb]at h7
  exact QE (.bool false) (by unfold gn;rw [if_pos (by first|omega|(right;right;right;right;simpa using h5))])
 try simp only [cb]at h7
 refine QB (.bool (decide (S<0))) ?_
 refine QD (decide (S<0)) (fun h8=>?_) (fun h8=>?_)
 ·try simp only [cb]at h8
  exact QE (.bool false) (by unfold gn;rw [if_pos (by first|omega|(right;right;right;right;simpa using h5))])
 try simp only [cb]at h8
 refine QB (.bool (decide (S≥1073741789))) ?_
 refine QD (decide (S≥1073741789)) (fun h9=>?_) (fun h9=>?_)
 ·try simp only [cb]at h9
  exact QE (.bool false) (by unfold gn;rw [if_pos (by first|omega|(right;right;right;right;simpa using h5))])
 try simp only [cb]at h9
 have hmb:=Ck (Jac.aN 4 S) (Jac.aN key (-E))
 have hvk:=Jac.dX (show Jac.fi key=true by simpa using h5)
 refine QC (.int .i64 ((Jac.er (Jac.aN 4 S) (Jac.aN key (-E))))) (fun α=>⟨[⟨.int .i64 key,0,[]⟩,⟨.agg #[.int .i64 E,.int .i64 S],0,[]⟩],QQ,.inr (.inr (.inr (.inr (.inr (.inr (⟨rfl,_,_,_,rfl,ab,ab,rfl⟩)))))),ap rfl⟩) ?_
 refine QC (.int .i64 ((gl ((Jac.er (Jac.aN 4 S) (Jac.aN key (-E)))) key tx))) (fun α=>⟨[⟨.int .i64 ((Jac.er (Jac.aN 4 S) (Jac.aN key (-E)))),0,[]⟩,⟨.int .i64 key,0,[]⟩,⟨.slice A n c,1,(sb tx).flatMap c8⟩],⟨aa,aa,aa,aa,aa,aa,⟨rfl,rfl,rfl⟩,trivial⟩,.inr (.inr (.inr (.inr (.inr (.inl ⟨rfl,_,_,_,tx,rfl,ab,⟨ab,ab,ab,ab⟩,rfl⟩))))),ap rfl⟩) ?_
 refine QB (.bool ((E:Int) == (gl ((Jac.er (Jac.aN 4 S) (Jac.aN key (-E)))) key tx))) ?_
 exact QE (.bool ((E:Int) == (gl ((Jac.er (Jac.aN 4 S) (Jac.aN key (-E)))) key tx))) (by unfold gn;rw [if_neg (by rintro(q|q|q|q|q)<;>first|omega|(simp [q]at h5))];first|rfl|exact congrArg Value.bool (beq_eq_decide ..))
def Qa(K:QV)(f:FuncId)(xs:List SX.Arg)(v:Value):Prop:=f=57∧∃ (hdr:Value) (fl:List Fl),xs=[⟨.agg #[.int .i64 3,.int .i64 0,.string ⟨#[]⟩,hdr],0,[]⟩]∧K hdr 4 (gS fl)∧fl.length≤1048576∧(∀ z∈fl,z.fits)∧v=.tuple #[.agg ((aG fl).flatMap c8).toArray,.int .i64 0]
def N2:FuncId→Option SX.Sh:=fun f=>if f=57 then some (.tp [.sl 1,.one])else if f∈[52,22]then some .one else if f∈[36,26]then some (.sl 1)else if f=23 then some (.ag 32)else if f=25 then some (.tp [.ag 2,.one])else none
noncomputable def K8(K A:QV):SX.Cx:={ P:=Tryz.prog,R:=Qa,shp:=N2,K:=K,A:=A,trm:=true }
theorem Ny(K A:QV):(K8 K A).Ok:=by
 refine SX.Cx.b6 al ?_
 intro K f xs v W hR hrd hKf
 obtain⟨rfl,hdr,fl,rfl,hk,hl,hf,rfl⟩:=hR
 obtain⟨A,n,c,rfl,h2,h3,h4⟩:=jZ (hKf _ _ _ hk)
 exact Calls.mono (kZ fl A n c W h2 ab h3 hf) fun e w' h=>aH.OA rfl h
def sG:SX.Tree :=(.df (.callg 57 [.no] [(.own 4 [(.i 2),(.i 0),(.k (.string ⟨#[108,105,109,105,116]⟩)),(.k (.slice none 0 0)),(.i 1),(.q 0),(.k (.string ⟨#[]⟩)),(.k (.slice none 0 0)),(.i 1),(.x 1 [0]),(.k (.string ⟨#[]⟩)),(.k (.slice none 0 0)),(.i 1),(.x 1 [1]),(.k (.string ⟨#[]⟩)),(.k (.slice none 0 0)),(.i 1),(.x 1 [2]),(.k (.string ⟨#[]⟩)),(.k (.slice none 0 0)),(.i 1),(.x 1 [3]),(.k (.string ⟨#[]⟩)),(.k (.slice none 0 0)),(.i 1),(.x 1 [4]),(.k (.string ⟨#[]⟩)),(.k (.slice none 0 0)),(.i 1),(.x 1 [5]),(.k (.string ⟨#[]⟩)),(.k (.slice none 0 0)),(.i 1),(.x 1 [6]),(.k (.string ⟨#[]⟩)),(.k (.slice none 0 0)),(.i 1),(.x 1 [7]),(.k (.string ⟨#[]⟩)),(.k (.slice none 0 0)),(.i 1),(.x 1 [8]),(.k (.string ⟨#[]⟩)),(.k (.slice none 0 0)),(.i 1),(.q 2),(.k (.string ⟨#[]⟩)),(.k (.slice none 0 0))])]) [(.a [(.i 3),(.i 0),(.k (.string ⟨#[]⟩)),(.sl 36 0 12 12)]),(.sl 36 0 12 12)] (.tp [(.sl 1),.one])
(.ret (.row 38) (List.replicate 38 none++[(some ⟨[(.x 3 [0])],0,(.ext 1)⟩)]) []))
def zP:List SX.V:=[.x 0 [],.a ((List.range 9).map fun j=>.x 1 [j]),.x 2 []]
def Dk:kp:=⟨fun f=>true,[],2,100⟩
theorem ER(K A:QV):QU (K8 K A) Dk 36 Tryz.f36 zP [.one,.ag 9,.one]=sG:=aa
theorem uw(at_ salt:Int)(x:cf)(w:World)(hf:∀ z∈aC at_ x salt,z.fits):RS 36 #[.int .i64 at_,fU x,.int .i64 salt] w 1 ((aG (aC at_ x salt)).flatMap c8):=by
 refine QG (ER QW QW) [.int .i64 at_,fU x,.int .i64 salt] (Ny _ _) Tryz.func36 ?_ ?_
 ·exact fun W hW v z xs h=>h.elim
 unfold sG
 generalize hfl:aC at_ x salt=fl at *
 have hfll:fl.length≤1048576:=by rw [← hfl];simp [aC,bJ]
 refine aO (.tuple #[.agg ((aG fl).flatMap c8).toArray,.int .i64 0]) (fun α=>⟨[⟨.agg #[.int .i64 3,.int .i64 0,.string ⟨#[]⟩,.slice (some ⟨(α 36).b,0,none⟩) 12 12],0,[]⟩],[⟨.slice (some ⟨(α 36).b,0,none⟩) 12 12,4,gS fl⟩],QP,⟨by rw [← hfl];kernel_rfl,trivial⟩,⟨rfl,_,fl,rfl,.inr ai,hfll,hf,rfl⟩,ap rfl⟩) (lJ _ _) ?_
 exact aK fun α W _ hR hS=>⟨hS.below,(α 38).h,aa,aH.vD hS (n:=38) (b:=(⟨[(.x 3 [0])],0,(.ext 1)⟩:ak)) aa rfl (hR 38 _ aa) (Eq.trans (b:=[Value.agg ((aG fl).flatMap c8).toArray].flatMap ae) aa (by simp [ae])) (fun W2 s z xs hk=>nomatch hk) (fun B s z xs hk=>nomatch hk)⟩
def n8:SX.Tree :=(.df .b2s [(.a (QJ 0 2 32))] .one
(.df (.callg 57 [.no] [(.own 4 [(.i 2),(.i 0),(.k (.string ⟨#[108,105,109,105,116,115]⟩)),(.k (.slice none 0 0)),(.i 1),(.x 0 [0]),(.k (.string ⟨#[]⟩)),(.k (.slice none 0 0)),(.i 1),(.x 0 [1]),(.k (.string ⟨#[]⟩)),(.k (.slice none 0 0)),(.i 2),(.i 0),(.q 1),(.k (.slice none 0 0))])]) [(.a [(.i 3),(.i 0),(.k (.string ⟨#[]⟩)),(.sl 12 0 4 4)]),(.sl 12 0 4 4)] (.tp [(.sl 1),.one])
(.ret (.row 14) (List.replicate 14 none++[(some ⟨[(.x 2 [0])],0,(.ext 1)⟩)]) [])))
def vn:List SX.V:=[.a ([.x 0 [0],.x 0 [1]]++((List.range 32).map fun j=>.x 0 [2+j])++[.x 0 [34],.x 0 [35]])]
def xH:kp:=⟨fun f=>true,[],2,100⟩
theorem yY(K A:QV):QU (K8 K A) xH 26 Tryz.f26 vn [.ag 36]=n8:=aa
theorem yO(person count E S:Int)(root:Dg)(w:World)(hf:∀ z∈bJ person count root,z.fits):RS 26 #[aX person count root E S] w 1 ((aG (bJ person count root)).flatMap c8):=by
 refine QG (yY QW QW) [aX person count root E S] (Ny _ _) Tryz.func26 ?_ ?_
 ·exact fun W hW v z xs h=>h.elim
 unfold n8
 refine QC (.string (bt (cr root))) (fun α=>BO (l:=cr root) aa) ?_
 generalize hfl:bJ person count root=fl at *
 have hfll:fl.length≤1048576:=by rw [← hfl];simp [aC,bJ]
 refine aO (.tuple #[.agg ((aG fl).flatMap c8).toArray,.int .i64 0]) (fun α=>⟨[⟨.agg #[.int .i64 3,.int .i64 0,.string ⟨#[]⟩,.slice (some ⟨(α 12).b,0,none⟩) 4 4],0,[]⟩],[⟨.slice (some ⟨(α 12).b,0,none⟩) 4 4,4,gS fl⟩],QP,⟨by rw [← hfl];kernel_rfl,trivial⟩,⟨rfl,_,fl,rfl,.inr ai,hfll,hf,rfl⟩,ap rfl⟩) (lJ _ _) ?_
 exact aK fun α W _ hR hS=>⟨hS.below,(α 14).h,aa,aH.vD hS (n:=14) (b:=(⟨[(.x 2 [0])],0,(.ext 1)⟩:ak)) aa rfl (hR 14 _ aa) (Eq.trans (b:=[Value.agg ((aG fl).flatMap c8).toArray].flatMap ae) aa (by simp [ae])) (fun W2 s z xs hk=>nomatch hk) (fun B s z xs hk=>nomatch hk)⟩
def y8:FuncId→Option SX.Sh:=fun f=>if f∈[34,38,30]then some .one else if f∈[36,26,32,31]then some (.sl 1)else if f=68 then some (.tp [.ag 32,.one])else none
def OK(g:FuncId)(f:FuncId)(xs:List SX.Arg)(v:Value):Prop:=f=g∧∃ (k s:Int) (x:cf),xs=[⟨.int .i64 k,0,[]⟩,⟨fU x,0,[]⟩,⟨.int .i64 s,0,[]⟩]∧(∀ z∈aC k x s,z.fits)∧v=.agg ((aG (aC k x s)).flatMap c8).toArray
def OJ(g:FuncId)(K:QV)(f:FuncId)(xs:List SX.Arg)(v:Value):Prop:=f=g∧bn K∧∃ (person count E S:Int) (root:Dg) (k s:Int) (x:cf) (p:List Dg) (hdr:Value),xs=[⟨aX person count root E S,0,[]⟩,⟨bR k s x hdr,0,[]⟩]∧K hdr 32 (bf p)∧(∀ z∈aC k x s,z.fits)∧v=.bool (decide (bq person count root k s x p))
noncomputable def M4(K A:QV):SX.Cx:={ P:=Tryz.prog,R:=fun K f xs v=>OK 36 f xs v∨ON 68 K f xs v,shp:=y8,K:=K,A:=A,trm:=true }
theorem PB(K A:QV):(M4 K A).Ok:=by
 refine SX.Cx.b6 al ?_
 intro K f xs v W hR hrd hKf
 rcases hR with ⟨rfl,k,s,x,rfl,hf,rfl⟩|⟨rfl,hL,n,i,u,u2,X,p,rfl,hi,hn,hX,hXl,rfl⟩
 ·exact Calls.mono (uw k s x W hf) fun e w' h=>aH.tc rfl h
 obtain⟨A,a,e,rfl,h1,h2⟩:=bj (hrd ⟨u,1,X.flatMap c8⟩ ai)
 obtain⟨B,m,c,rfl,h3,h4⟩:=bj (hrd ⟨u2,32,bf p⟩ ai)
 exact(rL n i X p A a e B m c W hi hn h1 h2 hX hXl h3 h4 (bF hL hKf)).mono fun e w' h=>ay rfl h
def sF:SX.Tree :=
(.df (.bin .lss 3) [(.x 0 [1]),(.i 1)] .one
(.br 3 []
(.ret (.k (.bool false)) [] [])
(.df (.bin .gtr 3) [(.x 0 [1]),(.i 64)] .one
(.br 4 []
(.ret (.k (.bool false)) [] [])
(.df (.bin .lss 3) [(.x 1 [0]),(.i 0)] .one
(.br 5 []
(.ret (.k (.bool false)) [] [])
(.df (.bin .geq 3) [(.x 1 [0]),(.x 0 [1])] .one
(.br 6 []
(.ret (.k (.bool false)) [] [])
(.df (.bin .geq 3) [(.x 1 [1]),(.i 0)] .one
(.br 7 []
(.df (.bin .leq 3) [(.x 1 [1]),(.i 1099511627776)] .one
(.df .not [(.q 8)] .one
(.br 9 []
(.ret (.k (.bool false)) [] [])
(.df (.bin .neq 3) [(.x 1 [3]),(.x 0 [0])] .one
(.br 10 []
(.ret (.k (.bool false)) [] [])
(.df (.call 36 [.no,.no,.no]) [(.x 1 [0]),(.a (QJ 1 2 9)),(.x 1 [1])] (.sl 1)
(.df (.call 68 [.no,.no,(.row 1 [(.q 11)]),(.ext 32)]) [(.x 0 [1]),(.x 1 [0]),(.row 12),(.q 2)] (.tp [(.ag 32),.one])
(.df (.bin .eql 32) [(.x 12 [1]),(.i 0)] .one
(.br 13 []
(.df (.eqr false 32 (QL 32 (.i .u8))) [(.x 12 [0,0]),(.x 12 [0,1]),(.x 12 [0,2]),(.x 12 [0,3]),(.x 12 [0,4]),(.x 12 [0,5]),(.x 12 [0,6]),(.x 12 [0,7]),(.x 12 [0,8]),(.x 12 [0,9]),(.x 12 [0,10]),(.x 12 [0,11]),(.x 12 [0,12]),(.x 12 [0,13]),(.x 12 [0,14]),(.x 12 [0,15]),(.x 12 [0,16]),(.x 12 [0,17]),(.x 12 [0,18]),(.x 12 [0,19]),(.x 12 [0,20]),(.x 12 [0,21]),(.x 12 [0,22]),(.x 12 [0,23]),(.x 12 [0,24]),(.x 12 [0,25]),(.x 12 [0,26]),(.x 12 [0,27]),(.x 12 [0,28]),(.x 12 [0,29]),(.x 12 [0,30]),(.x 12 [0,31]),(.x 0 [2]),(.x 0 [3]),(.x 0 [4]),(.x 0 [5]),(.x 0 [6]),(.x 0 [7]),(.x 0 [8]),(.x 0 [9]),(.x 0 [10]),(.x 0 [11]),(.x 0 [12]),(.x 0 [13]),(.x 0 [14]),(.x 0 [15]),(.x 0 [16]),(.x 0 [17]),(.x 0 [18]),(.x 0 [19]),(.x 0 [20]),(.x 0 [21]),(.x 0 [22]),(.x 0 [23]),(.x 0 [24]),(.x 0 [25]),(.x 0 [26]),(.x 0 [27]),(.x 0 [28]),(.x 0 [29]),(.x 0 [30]),(.x 0 [31]),(.x 0 [32]),(.x 0 [33])] .one
(.ret (.q 14) [] []))
(.ret (.k (.bool false)) [] []))))))))))
(.ret (.k (.bool false)) [] [])))))))))))
theorem EP(K A:QV):QU (M4 K A) ⟨fun f=>true,[],0,100⟩ 34 Tryz.f34 qw [.ag 36,.ag 11,.one]=sF:=aa
theorem us(person count E S:Int)(root:Dg)(k s:Int)(x:cf)(p:List Dg)(B:Option Addr)(m c:Nat)(w:World)(hr:Rd w 32 B m (bf p))(hc:m≤c)(hf:∀ z∈aC k x s,z.fits)(hlaid:Laid w):RT 34 #[aX person count root E S,bR k s x (.slice B m c)] w (.bool (decide (bq person count root k s x p))):=by
 refine QG (EP (KW w) QW) [aX person count root E S,.agg ([Value.int .i64 k,Value.int .i64 s]++bE x).toArray,.slice B m c] (PB _ _) Tryz.func34 ?_ ?_
 ·exact fun W hW v z xs h=>h W hW
 have hL:bn (KW w):=dj hlaid
 have hK1:KW w (.slice B m c) 32 (bf p):=fun W hW=>⟨hr.aJ hW,hc⟩
 unfold sF
 refine QB (.bool (decide (count<1))) ?_
 refine QD (decide (count<1)) (fun g=>?_) (fun g1=>?_)
 ·rw [decide_eq_false fun h:bq person count root k s x p=>absurd (of_decide_eq_true g) (by have:=h.1;omega)]
  exact QE (.bool false) rfl
 have g1:=of_decide_eq_false g1
 refine QB (.bool (decide (count>64))) ?_
 refine QD (decide (count>64)) (fun g=>?_) (fun g2=>?_)
 ·rw [decide_eq_false fun h:bq person count root k s x p=>absurd (of_decide_eq_true g) (by have:=h.2.1;omega)]
  exact QE (.bool false) rfl
 have g2:=of_decide_eq_false g2
 refine QB (.bool (decide (k<0))) ?_
 refine QD (decide (k<0)) (fun g=>?_) (fun g3=>?_)
 ·rw [decide_eq_false fun h:bq person count root k s x p=>absurd (of_decide_eq_true g) (by have:=h.2.2.1;omega)]
  exact QE (.bool false) rfl
 have g3:=of_decide_eq_false g3
 refine QB (.bool (decide (k≥count))) ?_
 refine QD (decide (k≥count)) (fun g=>?_) (fun g4=>?_)
 ·rw [decide_eq_false fun h:bq person count root k s x p=>absurd (of_decide_eq_true g) (by have:=h.2.2.2.1;omega)]
  exact QE (.bool false) rfl
 have g4:=of_decide_eq_false g4
 refine QB (.bool (decide (s≥0))) ?_
 refine QD (decide (s≥0)) (fun g0=>?_) (fun g=>by
  rw [decide_eq_false fun h:bq person count root k s x p=>of_decide_eq_false g h.2.2.2.2.1.1]
  exact aK fun α W _ _ hS=>ji hS (x:=.bool false) aa rfl)
 refine QB (.bool (decide (s≤1099511627776))) ?_
 refine QB (.bool (!decide (s≤1099511627776))) ?_
 refine QD (!decide (s≤1099511627776)) (fun g=>?_) (fun g5=>?_)
 ·have g:¬ s≤1099511627776:=af g
  rw [decide_eq_false fun h:bq person count root k s x p=>g h.2.2.2.2.1.2]
  exact QE (.bool false) rfl
 have g5:gG s:=⟨of_decide_eq_true g0,af g5⟩
 refine QB (.bool ((x.person:Int) != person)) ?_
 refine QD ((x.person:Int) != person) (fun g=>?_) (fun g6=>?_)
 ·have g:x.person≠person:=af g
  rw [decide_eq_false fun h:bq person count root k s x p=>g h.2.2.2.2.2.1]
  exact QE (.bool false) rfl
 have g6:x.person=person:=af g6
 obtain⟨n,rfl⟩:∃ n:Nat,count=n:=⟨count.toNat,ab⟩
 obtain⟨i,rfl⟩:∃ i:Nat,k=i:=⟨k.toNat,ab⟩
 have hlt:=fe hf (by simp [aC])
 have hne:aG (aC (i:Int) x s)≠[]:=List.cons_ne_nil _ _
 have hfp:bq person (n:Int) root (i:Int) s x p↔∃ d,bc n i (bP (bI (aG (aC (i:Int) x s)))) p=some d∧cr d=cr root:=⟨fun h=>h.2.2.2.2.2.2,fun h=>⟨ab,ab,ab,ab,g5,g6,h⟩⟩
 refine aO (.agg ((aG (aC (i:Int) x s)).flatMap c8).toArray) (fun α=>⟨[⟨.int .i64 (i:Int),0,[]⟩,⟨fU x,0,[]⟩,⟨.int .i64 s,0,[]⟩],QR,.inl ⟨rfl,_,s,x,rfl,hf,rfl⟩,ap rfl⟩) (bg _) ?_
 generalize aG (aC (i:Int) x s)=X at *
 refine aO (il (bc n i (bP (bI X)) p)) (fun α=>⟨[⟨.int .i64 (n:Int),0,[]⟩,⟨.int .i64 (i:Int),0,[]⟩,⟨(α 12).h,1,X.flatMap c8⟩,⟨.slice B m c,32,bf p⟩],⟨aa,aa,aa,aa,Eq.trans (da (α 12).h 1 (X.flatMap c8)) aa,rfl,rfl,cast aa hK1,trivial⟩,.inr ⟨rfl,hL,n,i,_,_,X,p,rfl,ab,ab,hne,ab,rfl⟩,ap rfl⟩) (by cases bc n i (bP (bI X)) p<;>rfl) ?_
 generalize bc n i (bP (bI X)) p=o at *
 cases o with
 | none =>
  refine QB (.bool false) ?_
  refine QD false (fun h=>nomatch h) (fun _=>?_)
  rw [decide_eq_false fun h:bq person (n:Int) root (i:Int) s x p=>by obtain⟨d,h,_⟩:=hfp.1 h;cases h]
  exact QE (.bool false) rfl
 | some d =>
  refine QB (.bool true) ?_
  refine QD true (fun _=>?_) (fun h=>nomatch h)
  refine QC (.bool (false ^^ decide (cr d=cr root))) (fun α=>fH (f:=(fun l:List W8=>l.map w8)) gp (y:=cr d) (z:=cr root) aa aa aa) ?_
  have e:decide (bq person (n:Int) root (i:Int) s x p)=(false ^^ decide (cr d=cr root)):=by
   by_cases h:cr d=cr root
   ·have h2:bq person (n:Int) root (i:Int) s x p:=hfp.2 ⟨d,rfl,h⟩
    rw [decide_eq_true h,decide_eq_true h2];rfl
   rw [decide_eq_false h,decide_eq_false fun h2:bq person (n:Int) root (i:Int) s x p=>h (by obtain⟨d2,h3,h4⟩:=hfp.1 h2;cases h3;exact h4)];rfl
  rw [e]
  exact QE (.bool (false ^^ decide (cr d=cr root))) rfl
noncomputable def M5(K A:QV):SX.Cx:={ P:=Tryz.prog,R:=fun K f xs v=>OJ 34 K f xs v∨(f=26∧∃ (person count E S:Int) (root:Dg),xs=[⟨aX person count root E S,0,[]⟩]∧(∀ z∈bJ person count root,z.fits)∧v=.agg ((aG (bJ person count root)).flatMap c8).toArray)∨(f=38∧∃ (key:Int) (u:Value) (X:List W8) (E S:Int),xs=[⟨.int .i64 key,0,[]⟩,⟨u,1,X.flatMap c8⟩,⟨.agg #[.int .i64 E,.int .i64 S],0,[]⟩]∧X.length≤1048576∧v=.bool (gn key (bt X) E S)),shp:=y8,K:=K,A:=A,trm:=true }
theorem PC(K A:QV):(M5 K A).Ok:=by
 refine SX.Cx.b6 al ?_
 intro K f xs v W hR hrd hKf
 rcases hR with ⟨rfl,hL,person,count,E,S,root,k,s,x,p,hdr,rfl,hk,hf,rfl⟩|⟨rfl,person,count,E,S,root,rfl,hf,rfl⟩|⟨rfl,key,u,X,E,S,rfl,hX,rfl⟩
 ·obtain⟨B,m,c,rfl,h3,h4⟩:=bj (hKf _ _ _ hk)
  exact(us person count E S root k s x p B m c W h3 h4 hf (bF hL hKf)).mono fun e w' h=>ay rfl h
 ·exact Calls.mono (yO person count E S root W hf) fun e w' h=>aH.tc rfl h
 obtain⟨A,a,e,rfl,h1,h2⟩:=bj (hrd ⟨u,1,X.flatMap c8⟩ ai)
 exact(y4 key (bt X) A a e E S W (by rw [fw];exact h1) h2 (by rw [lF];exact hX)).mono fun e w' h=>ay rfl h
def pF:SX.Tree :=
(.df (.call 34 [.no,.no]) [(.a (QJ 0 0 36)),(.a (QJ 1 0 11++[(.q 2)]))] .one
(.br 4 []
(.df (.call 26 [.no]) [(.a (QJ 0 0 36))] (.sl 1)
(.df (.call 38 [.no,(.row 1 [(.q 5)]),.no]) [(.q 3),(.row 6),(.a [(.x 0 [34]),(.x 0 [35])])] .one
(.ret (.q 6) [] [])))
(.ret (.k (.bool false)) [] [])))
theorem Bl(K A:QV):QU (M5 K A) ⟨fun f=>true,[],0,100⟩ 15 Tryz.f15 oX [.ag 36,.ag 11,.one,.one]=pF:=aa
theorem Ek(key person count E S:Int)(root:Dg)(k s:Int)(x:cf)(p:List Dg)(B:Option Addr)(m c:Nat)(w:World)(hr:Rd w 32 B m (bf p))(hc:m≤c)(hf:∀ z∈aC k x s,z.fits)(hf2:∀ z∈bJ person count root,z.fits)(hlaid:Laid w):RT 15 #[.int .i64 key,aX person count root E S,bR k s x (.slice B m c)] w (.bool (decide (db key person count E S root k s x p))):=by
 refine QG (Bl (KW w) QW) [aX person count root E S,.agg ([Value.int .i64 k,Value.int .i64 s]++bE x).toArray,.slice B m c,.int .i64 key] (PC _ _) Tryz.func15 ?_ ?_
 ·exact fun W hW v z xs h=>h W hW
 have hL:bn (KW w):=dj hlaid
 have hK1:KW w (.slice B m c) 32 (bf p):=fun W hW=>⟨hr.aJ hW,hc⟩
 have hsl:=r5 hf2
 unfold pF
 refine QC (.bool (decide (bq person count root k s x p))) (fun α=>⟨[⟨aX person count root E S,0,[]⟩,⟨bR k s x (.slice B m c),0,[]⟩],QQ,.inl ⟨rfl,hL,person,count,E,S,root,k,s,x,p,_,rfl,hK1,hf,rfl⟩,ap rfl⟩) ?_
 refine QD (decide (bq person count root k s x p)) (fun g=>?_) (fun g=>?_)
 ·have g:=of_decide_eq_true g
  refine aO (.agg ((aG (bJ person count root)).flatMap c8).toArray) (fun α=>⟨[⟨aX person count root E S,0,[]⟩],QP,.inr (.inl ⟨rfl,person,count,E,S,root,rfl,hf2,rfl⟩),ap rfl⟩) (bg _) ?_
  have e:decide (db key person count E S root k s x p)=gn key (bt (aG (bJ person count root))) E S:=by
   cases hv:gn key (bt (aG (bJ person count root))) E S with
   | true =>
    have h2:db key person count E S root k s x p:=⟨g,hv⟩
    exact decide_eq_true h2
   | false=>exact decide_eq_false fun h2:db key person count E S root k s x p=>by have:=h2.2;rw [hv]at this;cases this
  rw [e]
  generalize aG (bJ person count root)=X at *
  refine QC (.bool (gn key (bt X) E S)) (fun α=>⟨[⟨.int .i64 key,0,[]⟩,⟨(α 6).h,1,X.flatMap c8⟩,⟨.agg #[.int .i64 E,.int .i64 S],0,[]⟩],⟨aa,aa,Eq.trans (da (α 6).h 1 (X.flatMap c8)) aa,aa,aa,trivial⟩,.inr (.inr ⟨rfl,key,_,X,E,S,rfl,hsl,rfl⟩),ap rfl⟩) ?_
  exact QE (.bool (gn key (bt X) E S)) rfl
 have g:=of_decide_eq_false g
 rw [decide_eq_false fun h2:db key person count E S root k s x p=>g h2.1]
 exact QE (.bool false) rfl
noncomputable def fk(person count:Int)(root:Dg)(k s:Int)(x:cf)(p:List Dg)(k' s':Int)(y:cf)(q:List Dg):Option (List W8×List W8) :=
 open Classical in if bq person count root k s x p ∧ bq person count root k' s' y q ∧ k = k' ∧ ¬ (x = y ∧ s = s') then vx count.toNat k.toNat (aG (aC k x s)) (aG (aC k' y s')) p q else none
def dc(o:Option (List W8×List W8))(h1 h2:dY):List SX.Arg:=[⟨gJ h1,1,(o.getD ([],[])).1.flatMap c8⟩,⟨gJ h2,1,(o.getD ([],[])).2.flatMap c8⟩]
theorem lI{w w':World}{o:Option (List W8×List W8)}{h1 h2:dY}{e:Ending}(hb:Below w.heap.size w w')(he:e=.returned (.tuple #[gJ h1,gJ h2,.bool o.isSome]))(hN:∀ y∈dc o h1 h2++[],y.rd w'∧fV w.heap.size y.v):iO w w' o e:=by
 have g1:=hN _ (List.mem_cons_self ..)
 have g2:=hN _ (List.mem_cons_of_mem _ (List.mem_cons_self ..))
 exact⟨hb,h1,h2,he,⟨⟨h1.1,h1.2.1,h1.2.2,rfl,g1.1.2⟩,g1.1,.inl g1.2⟩,⟨⟨h2.1,h2.2.1,h2.2.2,rfl,g2.1.2⟩,g2.1,.inl g2.2⟩⟩
theorem jU{W w':World}{o:Option (List W8×List W8)}{e:Ending}{Q:Value→List SX.Arg→Prop}(h:iO W w' o e)(hQ:∀ h1 h2:dY,Q (.tuple #[gJ h1,gJ h2,.bool o.isSome]) (dc o h1 h2)):Below W.heap.size W w'∧∃ v N,e=.returned v∧(SX.Sh.tp [.one,.one,.one]).fit v=true∧Q v N∧∀ y∈N,y.rd w'∧fV W.heap.size y.v:=by
 obtain⟨hb,h1,h2,he,⟨_,g1,g2⟩,⟨_,g3,g4⟩⟩:=h
 refine⟨hb,_,_,he,rfl,hQ h1 h2,fun y hy=>?_⟩
 rcases List.mem_cons.1 hy with rfl|hy
 ·exact⟨g1,g2.resolve_right fun⟨y,hy,_⟩=>nomatch hy⟩
 obtain rfl:=List.mem_singleton.1 hy
 exact⟨g3,g4.resolve_right fun⟨y,hy,_⟩=>nomatch hy⟩
noncomputable def Le(K A:QV):SX.Cx:={ P:=Tryz.prog,R:=fun _ f xs v=>OK 32 f xs v,shp:=y8,K:=K,A:=A,trm:=true }
theorem Pw(K A:QV):(Le K A).Ok:=by
 refine SX.Cx.b6 al ?_
 rintro K f xs v W ⟨rfl,k,s,x,rfl,hf,rfl⟩ hrd hKf
 exact Calls.mono (qY k s x W hf) fun e w' h=>aH.tc rfl h
def oR:SX.Tree :=
(.df (.call 32 [.no,.no,.no]) [(.x 0 [0]),(.a (QJ 0 2 9)),(.x 0 [1])] (.sl 1)
(.ret (.row 1) [none,(some ⟨[(.q 2)],0,(.ext 1)⟩)] []))
def tw:List SX.V:=[.a ([.x 0 [0],.x 0 [1]]++((List.range 9).map fun j=>.x 0 [2+j])++[.x 1 []])]
theorem Hu(K A:QV):QU (Le K A) ⟨fun f=>true,[],2,100⟩ 31 Tryz.f31 tw [.ag 11,.one]=oR:=aa
theorem GV(k s:Int)(x:cf)(hdr:Value)(w:World)(hf:∀ z∈aC k x s,z.fits)(hh:hdr.oneCell'=true):RS 31 #[bR k s x hdr] w 1 ((aG (aC k x s)).flatMap c8):=by
 refine b8 (C:=Le QW QW) (G:=⟨fun f=>true,[],2,100⟩) (args:=tw) (sh:=[.ag 11,.one]) (ρ:=[.agg ([Value.int .i64 k,Value.int .i64 s]++bE x).toArray,hdr]) 100000 oR (Pw _ _) Tryz.func31 rfl (Hu _ _) aa (by simp only [SX.Sh.dL,SX.Sh.fit,hh];kernel_rfl) aa ?_ ?_
 ·exact fun W hW v z xs h=>h.elim
 unfold oR
 refine aO (.agg ((aG (aC k x s)).flatMap c8).toArray) (fun α=>⟨[⟨.int .i64 k,0,[]⟩,⟨fU x,0,[]⟩,⟨.int .i64 s,0,[]⟩],QR,⟨rfl,_,s,x,rfl,hf,rfl⟩,ap rfl⟩) (bg _) ?_
 generalize aG (aC k x s)=X at *
 exact aK fun α W _ hR hS=>⟨hS.below,(α 1).h,aa,aH.vD hS (n:=1) (b:=(⟨[(.x 2 [])],0,(.ext 1)⟩:ak)) aa rfl (hR 1 _ aa) (Eq.trans (b:=[Value.agg (X.flatMap c8).toArray].flatMap ae) aa (by simp [ae])) (fun W2 s z xs hk=>nomatch hk) (fun B s z xs hk=>nomatch hk)⟩
def KB:FuncId→Option SX.Sh:=fun f=>if f∈[33,35]then some (.tp [.one,.one,.one])else none
def PU(g:FuncId)(K:QV)(f:FuncId)(xs:List SX.Arg)(Q:Value→List SX.Arg→Prop):Prop:=f=g∧bn K∧∃ (n i:Nat) (u1 u2 u3 u4:Value) (X Y:List W8) (p q:List Dg),xs=[⟨.int .i64 (n:Int),0,[]⟩,⟨.int .i64 (i:Int),0,[]⟩,⟨u1,1,X.flatMap c8⟩,⟨u2,1,Y.flatMap c8⟩,⟨u3,32,bf p⟩,⟨u4,32,bf q⟩]∧i<n∧n≤65536∧X≠[]∧X.length≤17592186044416∧Y≠[]∧Y.length≤17592186044416∧∀ h1 h2:dY,Q (.tuple #[gJ h1,gJ h2,.bool (vx n i X Y p q).isSome]) (dc (vx n i X Y p q) h1 h2)
def Qc(f:FuncId)(xs:List SX.Arg)(v:Value):Prop:=f=31∧∃ (k s:Int) (x:cf) (A:Option Addr) (n c:Nat),xs=[⟨bR k s x (.slice A n c),0,[]⟩]∧(∀ z∈aC k x s,z.fits)∧v=.agg ((aG (aC k x s)).flatMap c8).toArray
noncomputable def M6(nb:Nat)(K A:QV):SX.Cx:={ nsh:=KB,Rn:=PU 33,nb:=nb,P:=Tryz.prog,R:=fun K f xs v=>OJ 30 K f xs v∨Qc f xs v,shp:=y8,K:=K,A:=A,trm:=true,tl:=[33,35] }
theorem PD(nb:Nat)(K A:QV):(M6 nb K A).Ok:=by
 refine SX.Cx.mo al (fun K f xs v W hR hrd hKf=>?_) fun f sh hs K xs Q W hR hrd hKf=>?_
 ·rcases hR with ⟨rfl,hL,person,count,E,S,root,k,s,x,p,hdr,rfl,hk,hf,rfl⟩|hR
  ·obtain⟨B,m,c,rfl,h3,h4⟩:=bj (hKf _ _ _ hk)
   exact(qO person count E S root k s x p B m c W h3 h4 hf (bF hL hKf)).mono fun e w' h=>ay rfl h
  obtain⟨rfl,k,s,x,A,n,c,rfl,hf,rfl⟩:=hR
  exact Calls.mono (GV k s x (.slice A n c) W hf rfl) fun e w' h=>aH.tc rfl h
 obtain⟨rfl,hL,n,i,u1,u2,u3,u4,X,Y,p,q,rfl,hi,hn,hX,hXl,hY,hYl,hQ⟩:=hR
 have hs:some (SX.Sh.tp [.one,.one,.one])=some sh:=hs
 cases hs
 obtain⟨A,a,e,rfl,h1,h2⟩:=bj (hrd ⟨u1,1,X.flatMap c8⟩ ai)
 obtain⟨A',a',e',rfl,h3,h4⟩:=bj (hrd ⟨u2,1,Y.flatMap c8⟩ ai)
 obtain⟨B,m,c,rfl,h5,h6⟩:=bj (hrd ⟨u3,32,bf p⟩ ai)
 obtain⟨B',m',c',rfl,h7,h8⟩:=bj (hrd ⟨u4,32,bf q⟩ ai)
 exact(FR n i X Y p q A a e A' a' e' B m c B' m' c' W hi hn h1 h2 hX hXl h3 h4 hY hYl h5 h6 h7 h8 (bF hL hKf)).mono fun e w' h=>jU h hQ
def pE:SX.Tree :=
(.df (.call 30 [.no,.no]) [(.a (QJ 0 0 36)),(.a (QJ 1 0 11++[(.q 2)]))] .one
(.df .not [(.q 5)] .one
(.br 6 []
(.ret (.t [(.k (.slice none 0 0)),(.k (.slice none 0 0)),(.k (.bool false))]) [none,none,none] [])
(.df (.call 30 [.no,.no]) [(.a (QJ 0 0 36)),(.a (QJ 3 0 11++[(.q 4)]))] .one
(.df .not [(.q 7)] .one
(.br 8 []
(.ret (.t [(.k (.slice none 0 0)),(.k (.slice none 0 0)),(.k (.bool false))]) [none,none,none] [])
(.df (.bin .neq 3) [(.x 1 [0]),(.x 3 [0])] .one
(.br 9 []
(.ret (.t [(.k (.slice none 0 0)),(.k (.slice none 0 0)),(.k (.bool false))]) [none,none,none] [])
(.df (.eqr false 9 (QL 9 (.i .i64))) (QJ 1 2 9++QJ 3 2 9) .one
(.br 10 []
(.df (.bin .eql 3) [(.x 1 [1]),(.x 3 [1])] .one
(.br 11 []
(.ret (.t [(.k (.slice none 0 0)),(.k (.slice none 0 0)),(.k (.bool false))]) [none,none,none] [])
(.df (.call 31 [.no]) [(.a (QJ 1 0 11++[(.q 2)]))] (.sl 1)
(.df (.call 31 [.no]) [(.a (QJ 3 0 11++[(.q 4)]))] (.sl 1)
(.df (.callq 33 [.no,.no,(.row 1 [(.q 12)]),(.row 1 [(.q 13)]),(.ext 32),(.ext 32)]) [(.x 0 [1]),(.x 1 [0]),(.row 9),(.row 12),(.q 2),(.q 4)] (.tp [.one,.one,.one])
(.ret (.t [(.x 14 [0]),(.x 14 [1]),(.x 14 [2])]) (List.replicate 13 none) []))))))
(.df (.call 31 [.no]) [(.a (QJ 1 0 11++[(.q 2)]))] (.sl 1)
(.df (.call 31 [.no]) [(.a (QJ 3 0 11++[(.q 4)]))] (.sl 1)
(.df (.callq 33 [.no,.no,(.row 1 [(.q 11)]),(.row 1 [(.q 12)]),(.ext 32),(.ext 32)]) [(.x 0 [1]),(.x 1 [0]),(.row 9),(.row 12),(.q 2),(.q 4)] (.tp [.one,.one,.one])
(.ret (.t [(.x 13 [0]),(.x 13 [1]),(.x 13 [2])]) (List.replicate 13 none) []))))))))))))))
def xv:List SX.V:=[.a ([.x 0 [0],.x 0 [1]]++((List.range 32).map fun j=>.x 0 [2+j])++[.x 0 [34],.x 0 [35]]),.a ([.x 1 [0],.x 1 [1]]++((List.range 9).map fun j=>.x 1 [2+j])++[.x 2 []]),.a ([.x 3 [0],.x 3 [1]]++((List.range 9).map fun j=>.x 3 [2+j])++[.x 4 []])]
def zY:kp:=⟨fun f=>f != 33,[],12,100⟩
theorem Bj(nb:Nat)(K A:QV):QU (M6 nb K A) zY 12 Tryz.f12 xv [.ag 36,.ag 11,.one,.ag 11,.one]=pE:=aa
theorem AF(person count E S:Int)(root:Dg)(k s:Int)(x:cf)(p:List Dg)(k' s':Int)(y:cf)(q:List Dg)(B:Option Addr)(m c:Nat)(B':Option Addr)(m' c':Nat)(w:World)(hr:Rd w 32 B m (bf p))(hc:m≤c)(hr':Rd w 32 B' m' (bf q))(hc':m'≤c')(hf:∀ z∈aC k x s,z.fits)(hf':∀ z∈aC k' y s',z.fits)(hlaid:Laid w):Calls Tryz.prog 12 #[aX person count root E S,bR k s x (.slice B m c),bR k' s' y (.slice B' m' c')] w fun e w'=>iO w w' (fk person count root k s x p k' s' y q) e:=by
 refine QG (Bj w.heap.size (KW w) QW) [aX person count root E S,.agg ([Value.int .i64 k,Value.int .i64 s]++bE x).toArray,.slice B m c,.agg ([Value.int .i64 k',Value.int .i64 s']++bE y).toArray,.slice B' m' c'] (PD _ _ _) Tryz.func12 ?_ ?_ ⟨rfl,Nat.le_refl _⟩
 ·exact fun W hW v z xs h=>h W hW
 have hL:bn (KW w):=dj hlaid
 have hK1:KW w (.slice B m c) 32 (bf p):=fun W hW=>⟨hr.aJ hW,hc⟩
 have hK2:KW w (.slice B' m' c') 32 (bf q):=fun W hW=>⟨hr'.aJ hW,hc'⟩
 unfold pE
 refine QC (.bool (decide (bq person count root k s x p))) (fun α=>⟨[⟨aX person count root E S,0,[]⟩,⟨bR k s x (.slice B m c),0,[]⟩],QQ,.inl ⟨rfl,hL,person,count,E,S,root,k,s,x,p,_,rfl,hK1,hf,rfl⟩,ap rfl⟩) ?_
 refine QB (.bool (!decide (bq person count root k s x p))) ?_
 refine QD (!decide (bq person count root k s x p)) (fun g=>?_) (fun g1=>?_)
 ·have g:¬ bq person count root k s x p:=af g
  have hn:fk person count root k s x p k' s' y q=none:=if_neg fun h=>g h.1
  rw [hn]
  exact aK fun α W _ _ hS=>⟨hS.below,(none,0,0),(none,0,0),aa,cH,cH⟩
 have g1:bq person count root k s x p:=af g1
 refine QC (.bool (decide (bq person count root k' s' y q))) (fun α=>⟨[⟨aX person count root E S,0,[]⟩,⟨bR k' s' y (.slice B' m' c'),0,[]⟩],QQ,.inl ⟨rfl,hL,person,count,E,S,root,k',s',y,q,_,rfl,hK2,hf',rfl⟩,ap rfl⟩) ?_
 refine QB (.bool (!decide (bq person count root k' s' y q))) ?_
 refine QD (!decide (bq person count root k' s' y q)) (fun g=>?_) (fun g2=>?_)
 ·have g:¬ bq person count root k' s' y q:=af g
  have hn:fk person count root k s x p k' s' y q=none:=if_neg fun h=>g h.2.1
  rw [hn]
  exact aK fun α W _ _ hS=>⟨hS.below,(none,0,0),(none,0,0),aa,cH,cH⟩
 have g2:bq person count root k' s' y q:=af g2
 refine QB (.bool ((k:Int) != k')) ?_
 refine QD ((k:Int) != k') (fun g=>?_) (fun g3=>?_)
 ·have g:¬ k=k':=af g
  have hn:fk person count root k s x p k' s' y q=none:=if_neg fun h=>g h.2.2.1
  rw [hn]
  exact aK fun α W _ _ hS=>⟨hS.below,(none,0,0),(none,0,0),aa,cH,cH⟩
 have g3:k=k':=af g3
 obtain⟨n,rfl⟩:∃ n:Nat,count=n:=⟨count.toNat,by have:=g1.1;omega⟩
 obtain⟨i,rfl⟩:∃ i:Nat,k=i:=⟨k.toNat,by have:=g1.2.2.1;omega⟩
 have hi:i<n:=by have:=g1.2.2.2.1;omega
 have hn9:n≤65536:=by have:=g1.2.1;omega
 have hXl:=fe hf (by simp [aC])
 have hYl:=fe hf' (by simp [aC])
 have hX0:aG (aC (i:Int) x s)≠[]:=List.cons_ne_nil _ _
 have hY0:aG (aC k' y s')≠[]:=List.cons_ne_nil _ _
 have hsm:¬ (x=y∧s=s')→fk person (n:Int) root (i:Int) s x p k' s' y q=vx n i (aG (aC (i:Int) x s)) (aG (aC k' y s')) p q:=fun h=>if_pos ⟨g1,g2,g3,h⟩
 refine QC (.bool (false ^^ decide (x=y))) (fun α=>fH (f:=bE) iQ (y:=x) (z:=y) aa aa aa) ?_
 refine QD (false ^^ decide (x=y)) (fun g4=>?_) (fun g4=>?_)
 ·have g4:x=y:=af g4
  refine QB (.bool ((s:Int) == s')) ?_
  refine QD ((s:Int) == s') (fun g5=>?_) (fun g5=>?_)
  ·have g5:s=s':=af g5
   have hn:fk person (n:Int) root (i:Int) s x p k' s' y q=none:=if_neg fun h=>h.2.2.2 ⟨g4,g5⟩
   rw [hn]
   exact aK fun α W _ _ hS=>⟨hS.below,(none,0,0),(none,0,0),aa,cH,cH⟩
  have g5:¬ s=s':=af g5
  rw [hsm fun h=>g5 h.2]
  refine aO (.agg ((aG (aC (i:Int) x s)).flatMap c8).toArray) (fun α=>⟨[⟨bR (i:Int) s x (.slice B m c),0,[]⟩],QP,.inr ⟨rfl,_,s,x,_,_,_,rfl,hf,rfl⟩,ap rfl⟩) (bg _) ?_
  refine aO (.agg ((aG (aC k' y s')).flatMap c8).toArray) (fun α=>⟨[⟨bR k' s' y (.slice B' m' c'),0,[]⟩],QP,.inr ⟨rfl,_,s',y,_,_,_,rfl,hf',rfl⟩,ap rfl⟩) (bg _) ?_
  clear hsm
  generalize aG (aC (i:Int) x s)=X at *
  generalize aG (aC k' y s')=Y at *
  refine dM (fun v N=>∃ h1 h2:dY,v=.tuple #[gJ h1,gJ h2,.bool (vx n i X Y p q).isSome]∧N=dc (vx n i X Y p q) h1 h2) al (fun α=>⟨[⟨.int .i64 (n:Int),0,[]⟩,⟨.int .i64 (i:Int),0,[]⟩,⟨(α 9).h,1,X.flatMap c8⟩,⟨(α 12).h,1,Y.flatMap c8⟩,⟨.slice B m c,32,bf p⟩,⟨.slice B' m' c',32,bf q⟩],⟨aa,aa,aa,aa,Eq.trans (da (α 9).h 1 (X.flatMap c8)) aa,Eq.trans (da (α 12).h 1 (Y.flatMap c8)) aa,rfl,rfl,cast aa hK1,rfl,rfl,cast aa hK2,trivial⟩,rfl,hL,n,i,_,_,_,_,X,Y,p,q,rfl,hi,hn9,hX0,ab,hY0,ab,fun h1 h2=>⟨h1,h2,rfl,rfl⟩⟩) ?_
  rintro _ _-⟨h1,h2,rfl,rfl⟩
  exact aK fun α W _ _ hS=>lI hS.below aa (hS.fact (p:=SX.NF _) (List.mem_append.2 (.inr (List.mem_cons_of_mem _ (List.mem_cons_self ..)))))
 have g4:¬ x=y:=af g4
 rw [hsm fun h=>g4 h.1]
 refine aO (.agg ((aG (aC (i:Int) x s)).flatMap c8).toArray) (fun α=>⟨[⟨bR (i:Int) s x (.slice B m c),0,[]⟩],QP,.inr ⟨rfl,_,s,x,_,_,_,rfl,hf,rfl⟩,ap rfl⟩) (bg _) ?_
 refine aO (.agg ((aG (aC k' y s')).flatMap c8).toArray) (fun α=>⟨[⟨bR k' s' y (.slice B' m' c'),0,[]⟩],QP,.inr ⟨rfl,_,s',y,_,_,_,rfl,hf',rfl⟩,ap rfl⟩) (bg _) ?_
 clear hsm
 generalize aG (aC (i:Int) x s)=X at *
 generalize aG (aC k' y s')=Y at *
 refine dM (fun v N=>∃ h1 h2:dY,v=.tuple #[gJ h1,gJ h2,.bool (vx n i X Y p q).isSome]∧N=dc (vx n i X Y p q) h1 h2) al (fun α=>⟨[⟨.int .i64 (n:Int),0,[]⟩,⟨.int .i64 (i:Int),0,[]⟩,⟨(α 9).h,1,X.flatMap c8⟩,⟨(α 12).h,1,Y.flatMap c8⟩,⟨.slice B m c,32,bf p⟩,⟨.slice B' m' c',32,bf q⟩],⟨aa,aa,aa,aa,Eq.trans (da (α 9).h 1 (X.flatMap c8)) aa,Eq.trans (da (α 12).h 1 (Y.flatMap c8)) aa,rfl,rfl,cast aa hK1,rfl,rfl,cast aa hK2,trivial⟩,rfl,hL,n,i,_,_,_,_,X,Y,p,q,rfl,hi,hn9,hX0,ab,hY0,ab,fun h1 h2=>⟨h1,h2,rfl,rfl⟩⟩) ?_
 rintro _ _-⟨h1,h2,rfl,rfl⟩
 exact aK fun α W _ _ hS=>lI hS.below aa (hS.fact (p:=SX.NF _) (List.mem_append.2 (.inr (List.mem_cons_of_mem _ (List.mem_cons_self ..)))))
noncomputable def M7(nb:Nat)(K A:QV):SX.Cx:={ nsh:=KB,Rn:=PU 35,nb:=nb,P:=Tryz.prog,R:=fun K f xs v=>OJ 34 K f xs v∨OK 36 f xs v,shp:=y8,K:=K,A:=A,trm:=true,tl:=[33,35] }
theorem PE(nb:Nat)(K A:QV):(M7 nb K A).Ok:=by
 refine SX.Cx.mo al (fun K f xs v W hR hrd hKf=>?_) fun f sh hs K xs Q W hR hrd hKf=>?_
 ·rcases hR with ⟨rfl,hL,person,count,E,S,root,k,s,x,p,hdr,rfl,hk,hf,rfl⟩|hR
  ·obtain⟨B,m,c,rfl,h3,h4⟩:=bj (hKf _ _ _ hk)
   exact(us person count E S root k s x p B m c W h3 h4 hf (bF hL hKf)).mono fun e w' h=>ay rfl h
  obtain⟨rfl,k,s,x,rfl,hf,rfl⟩:=hR
  exact Calls.mono (uw k s x W hf) fun e w' h=>aH.tc rfl h
 obtain⟨rfl,hL,n,i,u1,u2,u3,u4,X,Y,p,q,rfl,hi,hn,hX,hXl,hY,hYl,hQ⟩:=hR
 have hs:some (SX.Sh.tp [.one,.one,.one])=some sh:=hs
 cases hs
 obtain⟨A,a,e,rfl,h1,h2⟩:=bj (hrd ⟨u1,1,X.flatMap c8⟩ ai)
 obtain⟨A',a',e',rfl,h3,h4⟩:=bj (hrd ⟨u2,1,Y.flatMap c8⟩ ai)
 obtain⟨B,m,c,rfl,h5,h6⟩:=bj (hrd ⟨u3,32,bf p⟩ ai)
 obtain⟨B',m',c',rfl,h7,h8⟩:=bj (hrd ⟨u4,32,bf q⟩ ai)
 exact(El n i X Y p q A a e A' a' e' B m c B' m' c' W hi hn h1 h2 hX hXl h3 h4 hY hYl h5 h6 h7 h8 (bF hL hKf)).mono fun e w' h=>jU h hQ
def pG:SX.Tree :=
(.df (.call 34 [.no,.no]) [(.a (QJ 0 0 36)),(.a (QJ 1 0 11++[(.q 2)]))] .one
(.df (.call 34 [.no,.no]) [(.a (QJ 0 0 36)),(.a (QJ 3 0 11++[(.q 4)]))] .one
(.df .not [(.q 5)] .one
(.br 7 []
(.ret (.t [(.k (.slice none 0 0)),(.k (.slice none 0 0)),(.k (.bool false))]) [none,none,none] [])
(.df .not [(.q 6)] .one
(.br 8 []
(.ret (.t [(.k (.slice none 0 0)),(.k (.slice none 0 0)),(.k (.bool false))]) [none,none,none] [])
(.df (.bin .neq 3) [(.x 1 [0]),(.x 3 [0])] .one
(.br 9 []
(.ret (.t [(.k (.slice none 0 0)),(.k (.slice none 0 0)),(.k (.bool false))]) [none,none,none] [])
(.df (.eqr false 9 (QL 9 (.i .i64))) (QJ 1 2 9++QJ 3 2 9) .one
(.br 10 []
(.df (.bin .eql 3) [(.x 1 [1]),(.x 3 [1])] .one
(.br 11 []
(.ret (.t [(.k (.slice none 0 0)),(.k (.slice none 0 0)),(.k (.bool false))]) [none,none,none] [])
(.df (.call 36 [.no,.no,.no]) [(.x 1 [0]),(.a (QJ 1 2 9)),(.x 1 [1])] (.sl 1)
(.df (.call 36 [.no,.no,.no]) [(.x 3 [0]),(.a (QJ 3 2 9)),(.x 3 [1])] (.sl 1)
(.df (.callq 35 [.no,.no,(.row 1 [(.q 12)]),(.row 1 [(.q 13)]),(.ext 32),(.ext 32)]) [(.x 0 [1]),(.x 1 [0]),(.row 13),(.row 20),(.q 2),(.q 4)] (.tp [.one,.one,.one])
(.ret (.t [(.x 14 [0]),(.x 14 [1]),(.x 14 [2])]) (List.replicate 21 none) []))))))
(.df (.call 36 [.no,.no,.no]) [(.x 1 [0]),(.a (QJ 1 2 9)),(.x 1 [1])] (.sl 1)
(.df (.call 36 [.no,.no,.no]) [(.x 3 [0]),(.a (QJ 3 2 9)),(.x 3 [1])] (.sl 1)
(.df (.callq 35 [.no,.no,(.row 1 [(.q 11)]),(.row 1 [(.q 12)]),(.ext 32),(.ext 32)]) [(.x 0 [1]),(.x 1 [0]),(.row 13),(.row 20),(.q 2),(.q 4)] (.tp [.one,.one,.one])
(.ret (.t [(.x 13 [0]),(.x 13 [1]),(.x 13 [2])]) (List.replicate 21 none) []))))))))))))))
def xw:List SX.V:=[.a ([.x 0 [0],.x 0 [1]]++((List.range 32).map fun j=>.x 0 [2+j])++[.x 0 [34],.x 0 [35]]),.a ([.x 1 [0],.x 1 [1]]++((List.range 9).map fun j=>.x 1 [2+j])++[.x 2 []]),.a ([.x 3 [0],.x 3 [1]]++((List.range 9).map fun j=>.x 3 [2+j])++[.x 4 []])]
def zZ:kp:=⟨fun f=>f != 35,[],12,100⟩
theorem Bm(nb:Nat)(K A:QV):QU (M7 nb K A) zZ 13 Tryz.f13 xw [.ag 36,.ag 11,.one,.ag 11,.one]=pG:=aa
theorem AR(person count E S:Int)(root:Dg)(k s:Int)(x:cf)(p:List Dg)(k' s':Int)(y:cf)(q:List Dg)(B:Option Addr)(m c:Nat)(B':Option Addr)(m' c':Nat)(w:World)(hr:Rd w 32 B m (bf p))(hc:m≤c)(hr':Rd w 32 B' m' (bf q))(hc':m'≤c')(hf:∀ z∈aC k x s,z.fits)(hf':∀ z∈aC k' y s',z.fits)(hlaid:Laid w):Calls Tryz.prog 13 #[aX person count root E S,bR k s x (.slice B m c),bR k' s' y (.slice B' m' c')] w fun e w'=>iO w w' (fk person count root k s x p k' s' y q) e:=by
 refine QG (Bm w.heap.size (KW w) QW) [aX person count root E S,.agg ([Value.int .i64 k,Value.int .i64 s]++bE x).toArray,.slice B m c,.agg ([Value.int .i64 k',Value.int .i64 s']++bE y).toArray,.slice B' m' c'] (PE _ _ _) Tryz.func13 ?_ ?_ ⟨rfl,Nat.le_refl _⟩
 ·exact fun W hW v z xs h=>h W hW
 have hL:bn (KW w):=dj hlaid
 have hK1:KW w (.slice B m c) 32 (bf p):=fun W hW=>⟨hr.aJ hW,hc⟩
 have hK2:KW w (.slice B' m' c') 32 (bf q):=fun W hW=>⟨hr'.aJ hW,hc'⟩
 unfold pG
 refine QC (.bool (decide (bq person count root k s x p))) (fun α=>⟨[⟨aX person count root E S,0,[]⟩,⟨bR k s x (.slice B m c),0,[]⟩],QQ,.inl ⟨rfl,hL,person,count,E,S,root,k,s,x,p,_,rfl,hK1,hf,rfl⟩,ap rfl⟩) ?_
 refine QC (.bool (decide (bq person count root k' s' y q))) (fun α=>⟨[⟨aX person count root E S,0,[]⟩,⟨bR k' s' y (.slice B' m' c'),0,[]⟩],QQ,.inl ⟨rfl,hL,person,count,E,S,root,k',s',y,q,_,rfl,hK2,hf',rfl⟩,ap rfl⟩) ?_
 refine QB (.bool (!decide (bq person count root k s x p))) ?_
 refine QD (!decide (bq person count root k s x p)) (fun g=>?_) (fun g1=>?_)
 ·have g:¬ bq person count root k s x p:=af g
  have hn:fk person count root k s x p k' s' y q=none:=if_neg fun h=>g h.1
  rw [hn]
  exact aK fun α W _ _ hS=>⟨hS.below,(none,0,0),(none,0,0),aa,cH,cH⟩
 have g1:bq person count root k s x p:=af g1
 refine QB (.bool (!decide (bq person count root k' s' y q))) ?_
 refine QD (!decide (bq person count root k' s' y q)) (fun g=>?_) (fun g2=>?_)
 ·have g:¬ bq person count root k' s' y q:=af g
  have hn:fk person count root k s x p k' s' y q=none:=if_neg fun h=>g h.2.1
  rw [hn]
  exact aK fun α W _ _ hS=>⟨hS.below,(none,0,0),(none,0,0),aa,cH,cH⟩
 have g2:bq person count root k' s' y q:=af g2
 refine QB (.bool ((k:Int) != k')) ?_
 refine QD ((k:Int) != k') (fun g=>?_) (fun g3=>?_)
 ·have g:¬ k=k':=af g
  have hn:fk person count root k s x p k' s' y q=none:=if_neg fun h=>g h.2.2.1
  rw [hn]
  exact aK fun α W _ _ hS=>⟨hS.below,(none,0,0),(none,0,0),aa,cH,cH⟩
 have g3:k=k':=af g3
 obtain⟨n,rfl⟩:∃ n:Nat,count=n:=⟨count.toNat,by have:=g1.1;omega⟩
 obtain⟨i,rfl⟩:∃ i:Nat,k=i:=⟨k.toNat,by have:=g1.2.2.1;omega⟩
 have hi:i<n:=by have:=g1.2.2.2.1;omega
 have hn9:n≤65536:=by have:=g1.2.1;omega
 have hXl:=fe hf (by simp [aC])
 have hYl:=fe hf' (by simp [aC])
 have hX0:aG (aC (i:Int) x s)≠[]:=List.cons_ne_nil _ _
 have hY0:aG (aC k' y s')≠[]:=List.cons_ne_nil _ _
 have hsm:¬ (x=y∧s=s')→fk person (n:Int) root (i:Int) s x p k' s' y q=vx n i (aG (aC (i:Int) x s)) (aG (aC k' y s')) p q:=fun h=>if_pos ⟨g1,g2,g3,h⟩
 refine QC (.bool (false ^^ decide (x=y))) (fun α=>fH (f:=bE) iQ (y:=x) (z:=y) aa aa aa) ?_
 refine QD (false ^^ decide (x=y)) (fun g4=>?_) (fun g4=>?_)
 ·have g4:x=y:=af g4
  refine QB (.bool ((s:Int) == s')) ?_
  refine QD ((s:Int) == s') (fun g5=>?_) (fun g5=>?_)
  ·have g5:s=s':=af g5
   have hn:fk person (n:Int) root (i:Int) s x p k' s' y q=none:=if_neg fun h=>h.2.2.2 ⟨g4,g5⟩
   rw [hn]
   exact aK fun α W _ _ hS=>⟨hS.below,(none,0,0),(none,0,0),aa,cH,cH⟩
  have g5:¬ s=s':=af g5
  rw [hsm fun h=>g5 h.2]
  refine aO (.agg ((aG (aC (i:Int) x s)).flatMap c8).toArray) (fun α=>⟨[⟨.int .i64 (i:Int),0,[]⟩,⟨fU x,0,[]⟩,⟨.int .i64 s,0,[]⟩],QR,.inr ⟨rfl,_,s,x,rfl,hf,rfl⟩,ap rfl⟩) (bg _) ?_
  refine aO (.agg ((aG (aC k' y s')).flatMap c8).toArray) (fun α=>⟨[⟨.int .i64 k',0,[]⟩,⟨fU y,0,[]⟩,⟨.int .i64 s',0,[]⟩],QR,.inr ⟨rfl,_,s',y,rfl,hf',rfl⟩,ap rfl⟩) (bg _) ?_
  clear hsm
  generalize aG (aC (i:Int) x s)=X at *
  generalize aG (aC k' y s')=Y at *
  refine dM (fun v N=>∃ h1 h2:dY,v=.tuple #[gJ h1,gJ h2,.bool (vx n i X Y p q).isSome]∧N=dc (vx n i X Y p q) h1 h2) al (fun α=>⟨[⟨.int .i64 (n:Int),0,[]⟩,⟨.int .i64 (i:Int),0,[]⟩,⟨(α 13).h,1,X.flatMap c8⟩,⟨(α 20).h,1,Y.flatMap c8⟩,⟨.slice B m c,32,bf p⟩,⟨.slice B' m' c',32,bf q⟩],⟨aa,aa,aa,aa,Eq.trans (da (α 13).h 1 (X.flatMap c8)) aa,Eq.trans (da (α 20).h 1 (Y.flatMap c8)) aa,rfl,rfl,cast aa hK1,rfl,rfl,cast aa hK2,trivial⟩,rfl,hL,n,i,_,_,_,_,X,Y,p,q,rfl,hi,hn9,hX0,ab,hY0,ab,fun h1 h2=>⟨h1,h2,rfl,rfl⟩⟩) ?_
  rintro _ _-⟨h1,h2,rfl,rfl⟩
  exact aK fun α W _ _ hS=>lI hS.below aa (hS.fact (p:=SX.NF _) (List.mem_append.2 (.inr (List.mem_cons_of_mem _ (List.mem_cons_self ..)))))
 have g4:¬ x=y:=af g4
 rw [hsm fun h=>g4 h.1]
 refine aO (.agg ((aG (aC (i:Int) x s)).flatMap c8).toArray) (fun α=>⟨[⟨.int .i64 (i:Int),0,[]⟩,⟨fU x,0,[]⟩,⟨.int .i64 s,0,[]⟩],QR,.inr ⟨rfl,_,s,x,rfl,hf,rfl⟩,ap rfl⟩) (bg _) ?_
 refine aO (.agg ((aG (aC k' y s')).flatMap c8).toArray) (fun α=>⟨[⟨.int .i64 k',0,[]⟩,⟨fU y,0,[]⟩,⟨.int .i64 s',0,[]⟩],QR,.inr ⟨rfl,_,s',y,rfl,hf',rfl⟩,ap rfl⟩) (bg _) ?_
 clear hsm
 generalize aG (aC (i:Int) x s)=X at *
 generalize aG (aC k' y s')=Y at *
 refine dM (fun v N=>∃ h1 h2:dY,v=.tuple #[gJ h1,gJ h2,.bool (vx n i X Y p q).isSome]∧N=dc (vx n i X Y p q) h1 h2) al (fun α=>⟨[⟨.int .i64 (n:Int),0,[]⟩,⟨.int .i64 (i:Int),0,[]⟩,⟨(α 13).h,1,X.flatMap c8⟩,⟨(α 20).h,1,Y.flatMap c8⟩,⟨.slice B m c,32,bf p⟩,⟨.slice B' m' c',32,bf q⟩],⟨aa,aa,aa,aa,Eq.trans (da (α 13).h 1 (X.flatMap c8)) aa,Eq.trans (da (α 20).h 1 (Y.flatMap c8)) aa,rfl,rfl,cast aa hK1,rfl,rfl,cast aa hK2,trivial⟩,rfl,hL,n,i,_,_,_,_,X,Y,p,q,rfl,hi,hn9,hX0,ab,hY0,ab,fun h1 h2=>⟨h1,h2,rfl,rfl⟩⟩) ?_
 rintro _ _-⟨h1,h2,rfl,rfl⟩
 exact aK fun α W _ _ hS=>lI hS.below aa (hS.fact (p:=SX.NF _) (List.mem_append.2 (.inr (List.mem_cons_of_mem _ (List.mem_cons_self ..)))))
theorem LM{w:World}:KW w (.slice none 0 0) 32 (bf []):=fun W hW=>nK
def su:SX.Tree :=(.df (.call 7 [.no,.no,(.own 9 [(.i 1),(.i 3),(.i 0),(.i 5),(.i 9),(.i 7),(.i 3),(.i 0),(.i 2),(.i 4),(.i 3),(.i 0),(.i 0),(.i 9),(.i 7),(.i 4),(.i 0),(.i 0)]),(.own 1 [(.i 7),(.i 9)])]) [(.i 5),(.i 3),(.sl 0 0 2 2),(.sl 1 0 2 2)] (.tp [(.ag 36),.one])
(.df (.callq 9 [.no,(.own 9 [(.i 1),(.i 3),(.i 0),(.i 5),(.i 9),(.i 7),(.i 3),(.i 0),(.i 2),(.i 4),(.i 3),(.i 0),(.i 0),(.i 9),(.i 7),(.i 4),(.i 0),(.i 0)]),(.own 1 [(.i 7),(.i 9)]),.no]) [(.i 3),(.sl 0 0 2 2),(.sl 1 0 2 2),(.i 1)] (.tp [(.ag 12),.one])
(.df (.call 7 [.no,.no,(.own 9 []),(.own 1 [])]) [(.i 0),(.i 3),(.k (.slice none 0 0)),(.k (.slice none 0 0))] (.tp [(.ag 36),.one])
(.df (.call 7 [.no,.no,(.own 9 []),(.own 1 [])]) [(.i 1),(.i 3),(.k (.slice none 0 0)),(.k (.slice none 0 0))] (.tp [(.ag 36),.one])
(.df (.call 7 [.no,.no,(.own 9 [(.i 1),(.i 3),(.i 0),(.i 5),(.i 9),(.i 7),(.i 3),(.i 0),(.i 2),(.i 4),(.i 3),(.i 0),(.i 0),(.i 9),(.i 7),(.i 4),(.i 0),(.i 0)]),(.own 1 [(.i 7),(.i 9)])]) [(.i 5),(.i 2),(.sl 0 0 2 2),(.sl 1 0 2 2)] (.tp [(.ag 36),.one])
(.df (.callq 9 [.no,(.own 9 [(.i 1),(.i 3),(.i 0),(.i 5),(.i 9),(.i 7),(.i 3),(.i 0),(.i 2),(.i 4),(.i 3),(.i 0),(.i 0),(.i 9),(.i 7),(.i 4),(.i 0),(.i 0)]),(.own 1 [(.i 7),(.i 9)]),.no]) [(.i 3),(.sl 0 0 2 2),(.sl 1 0 2 2),(.i 2)] (.tp [(.ag 12),.one])
(.df (.bin .neq 32) [(.x 0 [1]),(.i 0)] .one
(.br 6 []
(.ret (.k (.bool false)) (List.replicate 8 none) [])
(.df (.bin .neq 32) [(.x 1 [1]),(.i 0)] .one
(.br 7 []
(.ret (.k (.bool false)) (List.replicate 8 none) [])
(.df (.bin .neq 32) [(.x 2 [1]),(.i 110)] .one
(.br 8 []
(.ret (.k (.bool false)) (List.replicate 8 none) [])
(.df (.bin .neq 32) [(.x 3 [1]),(.i 350)] .one
(.br 9 []
(.ret (.k (.bool false)) (List.replicate 8 none) [])
(.df (.bin .neq 32) [(.x 4 [1]),(.i 350)] .one
(.br 10 []
(.ret (.k (.bool false)) (List.replicate 8 none) [])
(.df (.bin .neq 32) [(.x 5 [1]),(.i 1)] .one
(.br 11 []
(.ret (.k (.bool false)) (List.replicate 8 none) [])
(.df (.bin .add 3) [(.x 1 [0,6]),(.i 1)] .one
(.df (.call 30 [.no,.no]) [(.a [(.x 0 [0,0]),(.x 0 [0,1]),(.x 0 [0,2]),(.x 0 [0,3]),(.x 0 [0,4]),(.x 0 [0,5]),(.x 0 [0,6]),(.x 0 [0,7]),(.x 0 [0,8]),(.x 0 [0,9]),(.x 0 [0,10]),(.x 0 [0,11]),(.x 0 [0,12]),(.x 0 [0,13]),(.x 0 [0,14]),(.x 0 [0,15]),(.x 0 [0,16]),(.x 0 [0,17]),(.x 0 [0,18]),(.x 0 [0,19]),(.x 0 [0,20]),(.x 0 [0,21]),(.x 0 [0,22]),(.x 0 [0,23]),(.x 0 [0,24]),(.x 0 [0,25]),(.x 0 [0,26]),(.x 0 [0,27]),(.x 0 [0,28]),(.x 0 [0,29]),(.x 0 [0,30]),(.x 0 [0,31]),(.x 0 [0,32]),(.x 0 [0,33]),(.x 0 [0,34]),(.x 0 [0,35])]),(.a [(.x 1 [0,0]),(.x 1 [0,1]),(.x 1 [0,2]),(.x 1 [0,3]),(.x 1 [0,4]),(.x 1 [0,5]),(.x 1 [0,6]),(.x 1 [0,7]),(.x 1 [0,8]),(.x 1 [0,9]),(.x 1 [0,10]),(.x 1 [0,11])])] .one
(.df .not [(.q 13)] .one
(.br 14 [] (.bad 70 [])
(.df (.call 30 [.no,.no]) [(.a [(.x 0 [0,0]),(.x 0 [0,1]),(.x 0 [0,2]),(.x 0 [0,3]),(.x 0 [0,4]),(.x 0 [0,5]),(.x 0 [0,6]),(.x 0 [0,7]),(.x 0 [0,8]),(.x 0 [0,9]),(.x 0 [0,10]),(.x 0 [0,11]),(.x 0 [0,12]),(.x 0 [0,13]),(.x 0 [0,14]),(.x 0 [0,15]),(.x 0 [0,16]),(.x 0 [0,17]),(.x 0 [0,18]),(.x 0 [0,19]),(.x 0 [0,20]),(.x 0 [0,21]),(.x 0 [0,22]),(.x 0 [0,23]),(.x 0 [0,24]),(.x 0 [0,25]),(.x 0 [0,26]),(.x 0 [0,27]),(.x 0 [0,28]),(.x 0 [0,29]),(.x 0 [0,30]),(.x 0 [0,31]),(.x 0 [0,32]),(.x 0 [0,33]),(.x 0 [0,34]),(.x 0 [0,35])]),(.a [(.x 1 [0,0]),(.x 1 [0,1]),(.x 1 [0,2]),(.x 1 [0,3]),(.x 1 [0,4]),(.x 1 [0,5]),(.x 1 [0,6]),(.x 1 [0,7]),(.x 1 [0,8]),(.x 1 [0,9]),(.x 1 [0,10]),(.x 1 [0,11])])] .one
(.df .not [(.q 15)] .one
(.br 16 [] (.bad 70 [])
(.df (.bin .neq 3) [(.x 1 [0,0]),(.x 1 [0,0])] .one
(.br 17 [] (.bad 70 [])
(.df (.eqr false 9 (QL 9 (.i .i64))) [(.x 1 [0,2]),(.x 1 [0,3]),(.x 1 [0,4]),(.x 1 [0,5]),(.x 1 [0,6]),(.x 1 [0,7]),(.x 1 [0,8]),(.x 1 [0,9]),(.x 1 [0,10]),(.x 1 [0,2]),(.x 1 [0,3]),(.x 1 [0,4]),(.x 1 [0,5]),(.x 1 [0,6]),(.x 1 [0,7]),(.x 1 [0,8]),(.x 1 [0,9]),(.x 1 [0,10])] .one
(.br 18 []
(.df (.bin .eql 3) [(.x 1 [0,1]),(.x 1 [0,1])] .one
(.br 19 []
(.df (.bin .neq 3) [(.x 0 [0,0]),(.i 3)] .one
(.br 20 []
(.ret (.k (.bool false)) (List.replicate 12 none) [])
(.df (.bin .neq 3) [(.x 0 [0,1]),(.i 2)] .one
(.br 21 []
(.ret (.k (.bool false)) (List.replicate 12 none) [])
(.df (.bin .neq 3) [(.x 1 [0,0]),(.i 1)] .one
(.br 22 []
(.ret (.k (.bool false)) (List.replicate 12 none) [])
(.df (.bin .neq 3) [(.x 1 [0,1]),(.i 9)] .one
(.br 23 []
(.ret (.k (.bool false)) (List.replicate 12 none) [])
(.df (.eqr true 9 (QL 9 (.i .i64))) [(.x 1 [0,2]),(.x 1 [0,3]),(.x 1 [0,4]),(.x 1 [0,5]),(.x 1 [0,6]),(.x 1 [0,7]),(.x 1 [0,8]),(.x 1 [0,9]),(.x 1 [0,10]),(.i 4),(.i 3),(.i 0),(.i 0),(.i 9),(.i 7),(.i 4),(.i 0),(.i 0)] .one
(.br 24 []
(.ret (.k (.bool false)) (List.replicate 12 none) [])
(.df (.len false) [(.x 1 [0,11])] .one
(.df (.bin .neq 3) [(.q 25),(.i 1)] .one
(.br 26 []
(.ret (.k (.bool false)) (List.replicate 12 none) [])
(.df (.call 14 [.no,.no,.no]) [(.i 1024),(.a [(.x 0 [0,0]),(.x 0 [0,1]),(.x 0 [0,2]),(.x 0 [0,3]),(.x 0 [0,4]),(.x 0 [0,5]),(.x 0 [0,6]),(.x 0 [0,7]),(.x 0 [0,8]),(.x 0 [0,9]),(.x 0 [0,10]),(.x 0 [0,11]),(.x 0 [0,12]),(.x 0 [0,13]),(.x 0 [0,14]),(.x 0 [0,15]),(.x 0 [0,16]),(.x 0 [0,17]),(.x 0 [0,18]),(.x 0 [0,19]),(.x 0 [0,20]),(.x 0 [0,21]),(.x 0 [0,22]),(.x 0 [0,23]),(.x 0 [0,24]),(.x 0 [0,25]),(.x 0 [0,26]),(.x 0 [0,27]),(.x 0 [0,28]),(.x 0 [0,29]),(.x 0 [0,30]),(.x 0 [0,31]),(.x 0 [0,32]),(.x 0 [0,33]),(.x 0 [0,34]),(.x 0 [0,35])]),(.a [(.x 1 [0,0]),(.x 1 [0,1]),(.x 1 [0,2]),(.x 1 [0,3]),(.x 1 [0,4]),(.x 1 [0,5]),(.x 1 [0,6]),(.x 1 [0,7]),(.x 1 [0,8]),(.x 1 [0,9]),(.x 1 [0,10]),(.x 1 [0,11])])] .one
(.br 27 []
(.df (.call 14 [.no,.no,.no]) [(.i 1024),(.a [(.x 0 [0,0]),(.x 0 [0,1]),(.x 0 [0,2]),(.x 0 [0,3]),(.x 0 [0,4]),(.x 0 [0,5]),(.x 0 [0,6]),(.x 0 [0,7]),(.x 0 [0,8]),(.x 0 [0,9]),(.x 0 [0,10]),(.x 0 [0,11]),(.x 0 [0,12]),(.x 0 [0,13]),(.x 0 [0,14]),(.x 0 [0,15]),(.x 0 [0,16]),(.x 0 [0,17]),(.x 0 [0,18]),(.x 0 [0,19]),(.x 0 [0,20]),(.x 0 [0,21]),(.x 0 [0,22]),(.x 0 [0,23]),(.x 0 [0,24]),(.x 0 [0,25]),(.x 0 [0,26]),(.x 0 [0,27]),(.x 0 [0,28]),(.x 0 [0,29]),(.x 0 [0,30]),(.x 0 [0,31]),(.x 0 [0,32]),(.x 0 [0,33]),(.x 0 [0,34]),(.x 0 [0,35])]),(.a [(.x 1 [0,0]),(.x 1 [0,1]),(.x 1 [0,2]),(.x 1 [0,3]),(.x 1 [0,4]),(.x 1 [0,5]),(.q 12),(.x 1 [0,7]),(.x 1 [0,8]),(.x 1 [0,9]),(.x 1 [0,10]),(.x 1 [0,11])])] .one
(.df .not [(.q 28)] .one
(.br 29 []
(.df (.call 14 [.no,.no,.no]) [(.i 4),(.a [(.x 0 [0,0]),(.x 0 [0,1]),(.x 0 [0,2]),(.x 0 [0,3]),(.x 0 [0,4]),(.x 0 [0,5]),(.x 0 [0,6]),(.x 0 [0,7]),(.x 0 [0,8]),(.x 0 [0,9]),(.x 0 [0,10]),(.x 0 [0,11]),(.x 0 [0,12]),(.x 0 [0,13]),(.x 0 [0,14]),(.x 0 [0,15]),(.x 0 [0,16]),(.x 0 [0,17]),(.x 0 [0,18]),(.x 0 [0,19]),(.x 0 [0,20]),(.x 0 [0,21]),(.x 0 [0,22]),(.x 0 [0,23]),(.x 0 [0,24]),(.x 0 [0,25]),(.x 0 [0,26]),(.x 0 [0,27]),(.x 0 [0,28]),(.x 0 [0,29]),(.x 0 [0,30]),(.x 0 [0,31]),(.x 0 [0,32]),(.x 0 [0,33]),(.x 0 [0,34]),(.x 0 [0,35])]),(.a [(.x 1 [0,0]),(.x 1 [0,1]),(.x 1 [0,2]),(.x 1 [0,3]),(.x 1 [0,4]),(.x 1 [0,5]),(.x 1 [0,6]),(.x 1 [0,7]),(.x 1 [0,8]),(.x 1 [0,9]),(.x 1 [0,10]),(.x 1 [0,11])])] .one
(.df .not [(.q 30)] .one
(.br 31 []
(.df (.call 14 [.no,.no,.no]) [(.i 4),(.a ([(.i 0),(.i 0)]++QL 32 (.k (.int .u8 0))++[(.i 0),(.i 0)])),(.a (QL 11 (.i 0)++[(.k (.slice none 0 0))]))] .one
(.df .not [(.q 32)] .one
(.ret (.q 33) (List.replicate 12 none) [])))
(.ret (.k (.bool false)) (List.replicate 12 none) []))))
(.ret (.k (.bool false)) (List.replicate 12 none) []))))
(.ret (.k (.bool false)) (List.replicate 12 none) [])))))))))))))))) (.bad 70 []))) (.bad 70 []))))))))))))))))))))))))))))))
def I6:kp:=⟨fun f=>f != 9,[],12,30⟩
theorem EH(nb:Nat)(K A:QV):(SX.run (jV nb K A) I6 100000 0 (SX.door 5 Tryz.f5 [] []) [.code (Tryz.f5.body.getD .skip),.top Tryz.f5]).eS=su:=aa
theorem H7(w:World)(hlaid:Laid w):RT 5 #[] w (.bool true):=by
 refine QG (EH w.heap.size (KW w) QW) [] (Pv _ _ _) Tryz.func5 ?_ ?_ ⟨rfl,Nat.le_refl _⟩
 ·exact fun W hW v z xs h=>h W hW
 have hL:bn (jV w.heap.size (KW w) QW).K:=dj hlaid
 unfold su
 refine QC (.tuple #[aX 3 2 gP 492397864 288485507,.int .i64 0]) (fun α=>⟨[⟨.int .i64 5,0,[]⟩,⟨.int .i64 3,0,[]⟩,⟨.slice (some ⟨(α 0).b,0,none⟩) 2 2,9,lQ pi⟩,⟨.slice (some ⟨(α 1).b,0,none⟩) 2 2,1,qU r9⟩],QR,.inl ⟨rfl,hL,5,3,_,_,pi,r9,rfl,aj,aj,B0,⟨aj,aj⟩,LF.symm⟩,ap rfl⟩) ?_
 refine dM (fun v N=>∃ A c,v=.tuple #[bR 1 9 eU (.slice A 1 c),.int .i64 0]∧N=[⟨.slice A 1 c,32,bf [ou]⟩]) al (fun α=>⟨[⟨.int .i64 3,0,[]⟩,⟨.slice (some ⟨(α 0).b,0,none⟩) 2 2,9,lQ pi⟩,⟨.slice (some ⟨(α 1).b,0,none⟩) 2 2,1,qU r9⟩,⟨.int .i64 1,0,[]⟩],QR,rfl,hL,3,1,_,_,pi,r9,rfl,aj,aj,B0,fun A c=>⟨A,c,by rw [GR];rfl,by rw [GR];rfl⟩⟩) ?_
 rintro _ _-⟨A1,c1,rfl,rfl⟩
 have hL1:bn ((jV w.heap.size (KW w) QW).plus ([⟨.slice A1 1 c1,32,bf [ou]⟩]++(jV w.heap.size (KW w) QW).N)).K:=jN hL
 refine QC (.tuple #[aX 0 0 (fun _=>0) 0 0,.int .i64 110]) (fun α=>⟨[⟨.int .i64 0,0,[]⟩,⟨.int .i64 3,0,[]⟩,⟨.slice none 0 0,9,lQ []⟩,⟨.slice none 0 0,1,qU []⟩],QR,.inl ⟨rfl,hL1,0,3,_,_,[],[],rfl,aj,aj,(fun z hz=>nomatch hz),⟨aj,aj⟩,GF.symm⟩,ap rfl⟩) ?_
 refine QC (.tuple #[aX 0 0 (fun _=>0) 0 0,.int .i64 350]) (fun α=>⟨[⟨.int .i64 1,0,[]⟩,⟨.int .i64 3,0,[]⟩,⟨.slice none 0 0,9,lQ []⟩,⟨.slice none 0 0,1,qU []⟩],QR,.inl ⟨rfl,hL1,1,3,_,_,[],[],rfl,aj,aj,(fun z hz=>nomatch hz),⟨aj,aj⟩,DO.symm⟩,ap rfl⟩) ?_
 refine QC (.tuple #[aX 0 0 (fun _=>0) 0 0,.int .i64 350]) (fun α=>⟨[⟨.int .i64 5,0,[]⟩,⟨.int .i64 2,0,[]⟩,⟨.slice (some ⟨(α 0).b,0,none⟩) 2 2,9,lQ pi⟩,⟨.slice (some ⟨(α 1).b,0,none⟩) 2 2,1,qU r9⟩],QR,.inl ⟨rfl,hL1,5,2,_,_,pi,r9,rfl,aj,aj,B0,⟨aj,aj⟩,Ax.symm⟩,ap rfl⟩) ?_
 refine dM (fun v N=>∃ A c,v=.tuple #[bR 0 0 default (.slice A 0 c),.int .i64 1]∧N=[⟨.slice A 0 c,32,bf []⟩]) al (fun α=>⟨[⟨.int .i64 3,0,[]⟩,⟨.slice (some ⟨(α 0).b,0,none⟩) 2 2,9,lQ pi⟩,⟨.slice (some ⟨(α 1).b,0,none⟩) 2 2,1,qU r9⟩,⟨.int .i64 2,0,[]⟩],QR,rfl,hL1,3,2,_,_,pi,r9,rfl,aj,aj,B0,fun A c=>⟨A,c,by rw [yu];rfl,by rw [yu];rfl⟩⟩) ?_
 rintro _ _-⟨A2,c2,rfl,rfl⟩
 have hL2:bn (((jV w.heap.size (KW w) QW).plus ([⟨.slice A1 1 c1,32,bf [ou]⟩]++(jV w.heap.size (KW w) QW).N)).plus ([⟨.slice A2 0 c2,32,bf []⟩]++((jV w.heap.size (KW w) QW).plus ([⟨.slice A1 1 c1,32,bf [ou]⟩]++(jV w.heap.size (KW w) QW).N)).N)).K:=jN hL1
 have hK0:(((jV w.heap.size (KW w) QW).plus ([⟨.slice A1 1 c1,32,bf [ou]⟩]++(jV w.heap.size (KW w) QW).N)).plus ([⟨.slice A2 0 c2,32,bf []⟩]++((jV w.heap.size (KW w) QW).plus ([⟨.slice A1 1 c1,32,bf [ou]⟩]++(jV w.heap.size (KW w) QW).N)).N)).K (.slice none 0 0) 32 (bf []):=zr (zr (C:=jV w.heap.size (KW w) QW) LM)
 have hN1:(⟨.slice A1 1 c1,32,bf [ou]⟩:SX.Arg)∈([⟨.slice A1 1 c1,32,bf [ou]⟩]++(jV w.heap.size (KW w) QW).N):=List.mem_append_left _ (List.mem_cons_self ..)
 have hK1:(((jV w.heap.size (KW w) QW).plus ([⟨.slice A1 1 c1,32,bf [ou]⟩]++(jV w.heap.size (KW w) QW).N)).plus ([⟨.slice A2 0 c2,32,bf []⟩]++((jV w.heap.size (KW w) QW).plus ([⟨.slice A1 1 c1,32,bf [ou]⟩]++(jV w.heap.size (KW w) QW).N)).N)).K (.slice A1 1 c1) 32 (bf [ou]):=zr (eR hN1)
 have f1:∀ z∈aC 1 eU 9,z.fits:=gb ⟨aj,aj⟩ (by unfold cf.fit bQ;decide) ⟨aj,aj⟩
 have f2:∀ z∈aC 1 vM 9,z.fits:=gb ⟨aj,aj⟩ (by unfold cf.fit bQ;decide) ⟨aj,aj⟩
 have f0:∀ z∈aC 0 default 0,z.fits:=gb ⟨aj,aj⟩ (by unfold cf.fit bQ;decide) ⟨aj,aj⟩
 have g1:∀ z∈bJ 3 2 gP,z.fits:=ke ⟨aj,aj⟩ ⟨aj,aj⟩
 have g0:∀ z∈bJ 0 0 (fun _=>0),z.fits:=ke ⟨aj,aj⟩ ⟨aj,aj⟩
 have d1:=Ja
 have d2:=Jb
 have d3:=I9
 have d4:=I8
 have d5:=F9
 generalize gP=R at *
 refine QB (.bool false) ?_
 refine QD false (fun h=>absurd h aj) (fun _=>?_)
 refine QB (.bool false) ?_
 refine QD false (fun h=>absurd h aj) (fun _=>?_)
 refine QB (.bool false) ?_
 refine QD false (fun h=>absurd h aj) (fun _=>?_)
 refine QB (.bool false) ?_
 refine QD false (fun h=>absurd h aj) (fun _=>?_)
 refine QB (.bool false) ?_
 refine QD false (fun h=>absurd h aj) (fun _=>?_)
 refine QB (.bool false) ?_
 refine QD false (fun h=>absurd h aj) (fun _=>?_)
 refine QB (.int .i64 10) ?_
 refine QC (.bool true) (fun α=>⟨[⟨aX 3 2 R 492397864 288485507,0,[]⟩,⟨bR 1 9 eU (.slice A1 1 c1),0,[]⟩],QQ,.inr (.inl ⟨rfl,hL2,3,2,492397864,288485507,R,1,9,eU,[ou],_,rfl,hK1,f1,by rw [decide_eq_true d5]⟩),ap rfl⟩) ?_
 refine QB (.bool false) ?_
 refine QD false (fun h=>absurd h aj) (fun _=>?_)
 refine QC (.bool true) (fun α=>⟨[⟨aX 3 2 R 492397864 288485507,0,[]⟩,⟨bR 1 9 eU (.slice A1 1 c1),0,[]⟩],QQ,.inr (.inl ⟨rfl,hL2,3,2,492397864,288485507,R,1,9,eU,[ou],_,rfl,hK1,f1,by rw [decide_eq_true d5]⟩),ap rfl⟩) ?_
 refine QB (.bool false) ?_
 refine QD false (fun h=>absurd h aj) (fun _=>?_)
 refine QB (.bool false) ?_
 refine QD false (fun h=>absurd h aj) (fun _=>?_)
 refine QC (.bool (false ^^ decide (eU=eU))) (fun α=>fH (f:=bE) iQ (y:=eU) (z:=eU) aa aa aa) ?_
 refine QD (false ^^ decide (eU=eU)) (fun _=>?_) (fun h=>absurd h aj)
 refine QB (.bool true) ?_
 refine QD true (fun _=>?_) (fun h=>absurd h aj)
 refine QB (.bool false) ?_
 refine QD false (fun h=>absurd h aj) (fun _=>?_)
 refine QB (.bool false) ?_
 refine QD false (fun h=>absurd h aj) (fun _=>?_)
 refine QB (.bool false) ?_
 refine QD false (fun h=>absurd h aj) (fun _=>?_)
 refine QB (.bool false) ?_
 refine QD false (fun h=>absurd h aj) (fun _=>?_)
 refine QC (.bool (true ^^ decide (eU=eU))) (fun α=>fH (f:=bE) iQ (y:=eU) (z:=eU) aa aa aa) ?_
 refine QD (true ^^ decide (eU=eU)) (fun h=>absurd h aj) (fun _=>?_)
 refine QB (.int .i64 1) ?_
 refine QB (.bool false) ?_
 refine QD false (fun h=>absurd h aj) (fun _=>?_)
 refine QC (.bool true) (fun α=>⟨[⟨.int .i64 1024,0,[]⟩,⟨aX 3 2 R 492397864 288485507,0,[]⟩,⟨bR 1 9 eU (.slice A1 1 c1),0,[]⟩],QR,.inr (.inr ⟨rfl,hL2,1024,3,2,492397864,288485507,R,1,9,eU,[ou],_,rfl,hK1,f1,g1,by rw [decide_eq_true d1]⟩),ap rfl⟩) ?_
 refine QD true (fun _=>?_) (fun h=>absurd h aj)
 refine QC (.bool false) (fun α=>⟨[⟨.int .i64 1024,0,[]⟩,⟨aX 3 2 R 492397864 288485507,0,[]⟩,⟨bR 1 9 vM (.slice A1 1 c1),0,[]⟩],QR,.inr (.inr ⟨rfl,hL2,1024,3,2,492397864,288485507,R,1,9,vM,[ou],_,rfl,hK1,f2,g1,by rw [decide_eq_false d2]⟩),ap rfl⟩) ?_
 refine QB (.bool true) ?_
 refine QD true (fun _=>?_) (fun h=>absurd h aj)
 refine QC (.bool false) (fun α=>⟨[⟨.int .i64 4,0,[]⟩,⟨aX 3 2 R 492397864 288485507,0,[]⟩,⟨bR 1 9 eU (.slice A1 1 c1),0,[]⟩],QR,.inr (.inr ⟨rfl,hL2,4,3,2,492397864,288485507,R,1,9,eU,[ou],_,rfl,hK1,f1,g1,by rw [decide_eq_false d3]⟩),ap rfl⟩) ?_
 refine QB (.bool true) ?_
 refine QD true (fun _=>?_) (fun h=>absurd h aj)
 refine QC (.bool false) (fun α=>⟨[⟨.int .i64 4,0,[]⟩,⟨aX 0 0 (fun _=>0) 0 0,0,[]⟩,⟨bR 0 0 default (.slice none 0 0),0,[]⟩],QR,.inr (.inr ⟨rfl,hL2,4,0,0,0,0,(fun _=>0),0,0,default,[],_,rfl,hK0,f0,g0,by rw [decide_eq_false d4]⟩),ap rfl⟩) ?_
 refine QB (.bool true) ?_
 exact QE (.bool true) rfl
def Ob:FuncId→Option SX.Sh:=fun f=>if f∈[5,14,15]then some .one else none
def Nu:FuncId→Option SX.Sh:=fun f=>if f∈[12,13]then some (.tp [.one,.one,.one])else none
def P9(K:QV)(f:FuncId)(xs:List SX.Arg)(v:Value):Prop:=(f=14∨f=15)∧bn K∧∃ (key person count E S:Int) (root:Dg) (k s:Int) (x:cf) (p:List Dg) (hdr:Value),xs=[⟨.int .i64 key,0,[]⟩,⟨aX person count root E S,0,[]⟩,⟨bR k s x hdr,0,[]⟩]∧K hdr 32 (bf p)∧(∀ z∈aC k x s,z.fits)∧(∀ z∈bJ person count root,z.fits)∧v=.bool (decide (db key person count E S root k s x p))
def Qx(K:QV)(f:FuncId)(xs:List SX.Arg)(Q:Value→List SX.Arg→Prop):Prop:=(f=12∨f=13)∧bn K∧∃ (person count E S:Int) (root:Dg) (k s:Int) (x:cf) (p:List Dg) (u:Value) (k' s':Int) (y:cf) (q:List Dg) (u':Value),xs=[⟨aX person count root E S,0,[]⟩,⟨bR k s x u,0,[]⟩,⟨bR k' s' y u',0,[]⟩]∧K u 32 (bf p)∧K u' 32 (bf q)∧(∀ z∈aC k x s,z.fits)∧(∀ z∈aC k' y s',z.fits)∧∀ h1 h2:dY,Q (.tuple #[gJ h1,gJ h2,.bool (fk person count root k s x p k' s' y q).isSome]) (dc (fk person count root k s x p k' s' y q) h1 h2)
noncomputable def fY(nb:Nat)(K A:QV):SX.Cx:={ nsh:=Nu,Rn:=Qx,nb:=nb,P:=Tryz.prog,R:=fun K f xs v=>(f=5∧bn K∧xs=[]∧v=.bool true)∨P9 K f xs v,shp:=Ob,K:=K,A:=A,trm:=true }
theorem PF(nb:Nat)(K A:QV):(fY nb K A).Ok:=by
 refine SX.Cx.mo al (fun K f xs v W hR hrd hKf=>?_) fun f sh hs K xs Q W hR hrd hKf=>?_
 ·rcases hR with ⟨rfl,hL,rfl,rfl⟩|⟨hf,hL,key,person,count,E,S,root,k,s,x,p,hdr,rfl,hk,ff,gg,rfl⟩
  ·exact(H7 W (bF hL hKf)).mono fun e w' h=>ay rfl h
  obtain⟨B,m,c,rfl,h3,h4⟩:=bj (hKf _ _ _ hk)
  rcases hf with rfl|rfl
  ·exact(tG key person count E S root k s x p B m c W h3 h4 ff gg (bF hL hKf)).mono fun e w' h=>ay rfl h
  exact(Ek key person count E S root k s x p B m c W h3 h4 ff gg (bF hL hKf)).mono fun e w' h=>ay rfl h
 obtain⟨hf,hL,person,count,E,S,root,k,s,x,p,u,k',s',y,q,u',rfl,hk,hk',ff,ff',hQ⟩:=hR
 obtain⟨B,m,c,rfl,h3,h4⟩:=bj (hKf _ _ _ hk)
 obtain⟨B',m',c',rfl,h5,h6⟩:=bj (hKf _ _ _ hk')
 have hs2:SX.Sh.tp [.one,.one,.one]=sh:=by
  rcases hf with rfl|rfl<;>exact Option.some.inj hs
 subst hs2
 rcases hf with rfl|rfl
 ·exact(AF person count E S root k s x p k' s' y q B m c B' m' c' W h3 h4 h5 h6 ff ff' (bF hL hKf)).mono fun e w' h=>jU h hQ
 exact(AR person count E S root k s x p k' s' y q B m c B' m' c' W h3 h4 h5 h6 ff ff' (bF hL hKf)).mono fun e w' h=>jU h hQ
def zi:SX.Tree :=
(.df (.call 5 []) [] .one
(.df .not [(.q 6)] .one
(.br 7 []
(.ret (.k (.bool false)) [none,none,none] [])
(.df (.len false) [(.q 3)] .one
(.df (.bin .gtr 3) [(.q 8),(.i 100)] .one
(.br 9 []
(.ret (.k (.bool true)) [none,none,none] [])
(.df (.len false) [(.q 5)] .one
(.df (.bin .gtr 3) [(.q 10),(.i 100)] .one
(.br 11 []
(.ret (.k (.bool true)) [none,none,none] [])
(.df (.callq 12 [.no,.no,.no]) [(.a (QJ 1 0 36)),(.a (QJ 2 0 11++[(.q 3)])),(.a (QJ 4 0 11++[(.q 5)]))] (.tp [.one,.one,.one])
(.df (.callq 13 [.no,.no,.no]) [(.a (QJ 1 0 36)),(.a (QJ 2 0 11++[(.q 3)])),(.a (QJ 4 0 11++[(.q 5)]))] (.tp [.one,.one,.one])
(.df (.call 14 [.no,.no,.no]) [(.q 0),(.a (QJ 1 0 36)),(.a (QJ 2 0 11++[(.q 3)]))] .one
(.df (.call 15 [.no,.no,.no]) [(.q 0),(.a (QJ 1 0 36)),(.a (QJ 2 0 11++[(.q 3)]))] .one
(.df (.binb .eql) [(.q 14),(.q 15)] .one
(.br 16 []
(.df .b2sx [(.x 12 [0])] .one
(.df .b2sx [(.x 13 [0])] .one
(.df (.bin .eql 9) [(.q 17),(.q 18)] .one
(.br 19 []
(.df .b2sx [(.x 12 [1])] .one
(.df .b2sx [(.x 13 [1])] .one
(.df (.bin .eql 9) [(.q 20),(.q 21)] .one
(.br 22 []
(.df (.binb .eql) [(.x 12 [2]),(.x 13 [2])] .one
(.ret (.q 23) [none,none,none] []))
(.ret (.k (.bool false)) [none,none,none] [])))))
(.ret (.k (.bool false)) [none,none,none] [])))))
(.ret (.k (.bool false)) [none,none,none] []))))))))))))))))
def FF:List SX.V:=[.x 0 [],.a ([.x 1 [0],.x 1 [1]]++((List.range 32).map fun j=>.x 1 [2+j])++[.x 1 [34],.x 1 [35]]),.a ([.x 2 [0],.x 2 [1]]++((List.range 9).map fun j=>.x 2 [2+j])++[.x 3 []]),.a ([.x 4 [0],.x 4 [1]]++((List.range 9).map fun j=>.x 4 [2+j])++[.x 5 []])]
def I7:kp:=⟨fun f=>f != 12 && f != 13,[],12,100⟩
theorem J3(nb:Nat)(K A:QV):QU (fY nb K A) I7 4 Tryz.f4 FF [.one,.ag 36,.ag 11,.one,.ag 11,.one]=zi:=aa
theorem Dq(key person count E S:Int)(root:Dg)(k s:Int)(x:cf)(p:List Dg)(B:Option Addr)(m c:Nat)(k' s':Int)(y:cf)(q:List Dg)(B':Option Addr)(m' c':Nat)(w:World)(hr:Rd w 32 B m (bf p))(hc:m≤c)(hr':Rd w 32 B' m' (bf q))(hc':m'≤c')(h1:bQ k)(h2:x.fit)(h3:bQ s)(h1':bQ k')(h2':y.fit)(h3':bQ s')(h4:bQ person)(h5:bQ count)(hlaid:Laid w):RT 4 #[.int .i64 key,aX person count root E S,bR k s x (.slice B m c),bR k' s' y (.slice B' m' c')] w (.bool true):=by
 refine QG (J3 w.heap.size (KW w) QW) [.int .i64 key,aX person count root E S,.agg ([Value.int .i64 k,Value.int .i64 s]++bE x).toArray,.slice B m c,.agg ([Value.int .i64 k',Value.int .i64 s']++bE y).toArray,.slice B' m' c'] (PF _ _ _) Tryz.func4 ?_ ?_ ⟨rfl,Nat.le_refl _⟩
 ·exact fun W hW v z xs h=>h W hW
 have hL:bn (fY w.heap.size (KW w) QW).K:=dj hlaid
 have hK1:KW w (.slice B m c) 32 (bf p):=fun W hW=>⟨hr.aJ hW,hc⟩
 have hK2:KW w (.slice B' m' c') 32 (bf q):=fun W hW=>⟨hr'.aJ hW,hc'⟩
 have ff:=gb h1 h2 h3
 have ff':=gb h1' h2' h3'
 have gg:=ke (root:=root) h4 h5
 unfold zi
 refine QC (.bool true) (fun α=>⟨[],trivial,.inl ⟨rfl,hL,rfl,rfl⟩,ap rfl⟩) ?_
 refine QB (.bool false) ?_
 refine QD false (fun h=>absurd h aj) (fun _=>?_)
 refine QB (.int .i64 (m:Int)) ?_
 refine QB (.bool (decide ((m:Int)>100))) ?_
 refine QD (decide ((m:Int)>100)) (fun _=>?_) (fun _=>?_)
 ·exact QE (.bool true) rfl
 refine QB (.int .i64 (m':Int)) ?_
 refine QB (.bool (decide ((m':Int)>100))) ?_
 refine QD (decide ((m':Int)>100)) (fun _=>?_) (fun _=>?_)
 ·exact QE (.bool true) rfl
 generalize ho:fk person count root k s x p k' s' y q=o
 refine dM (fun v N=>∃ h1 h2:dY,v=.tuple #[gJ h1,gJ h2,.bool o.isSome]∧N=dc o h1 h2) al (fun α=>⟨[⟨aX person count root E S,0,[]⟩,⟨bR k s x (.slice B m c),0,[]⟩,⟨bR k' s' y (.slice B' m' c'),0,[]⟩],QR,.inl rfl,hL,person,count,E,S,root,k,s,x,p,_,k',s',y,q,_,rfl,hK1,hK2,ff,ff',fun h1 h2=>⟨h1,h2,by rw [ho],by rw [ho]⟩⟩) ?_
 rintro _ _-⟨u1,u2,rfl,rfl⟩
 have hL1:bn ((fY w.heap.size (KW w) QW).plus (dc o u1 u2++(fY w.heap.size (KW w) QW).N)).K:=jN hL
 have hQ1:((fY w.heap.size (KW w) QW).plus (dc o u1 u2++(fY w.heap.size (KW w) QW).N)).K (.slice B m c) 32 (bf p):=.inl hK1
 have hQ2:((fY w.heap.size (KW w) QW).plus (dc o u1 u2++(fY w.heap.size (KW w) QW).N)).K (.slice B' m' c') 32 (bf q):=.inl hK2
 refine dM (fun v N=>∃ h1 h2:dY,v=.tuple #[gJ h1,gJ h2,.bool o.isSome]∧N=dc o h1 h2) al (fun α=>⟨[⟨aX person count root E S,0,[]⟩,⟨bR k s x (.slice B m c),0,[]⟩,⟨bR k' s' y (.slice B' m' c'),0,[]⟩],QR,.inr rfl,hL1,person,count,E,S,root,k,s,x,p,_,k',s',y,q,_,rfl,hQ1,hQ2,ff,ff',fun h1 h2=>⟨h1,h2,by rw [ho],by rw [ho]⟩⟩) ?_
 rintro _ _-⟨v1,v2,rfl,rfl⟩
 have hL2:bn (((fY w.heap.size (KW w) QW).plus (dc o u1 u2++(fY w.heap.size (KW w) QW).N)).plus (dc o v1 v2++(dc o u1 u2++(fY w.heap.size (KW w) QW).N))).K:=jN hL1
 have hP1:(((fY w.heap.size (KW w) QW).plus (dc o u1 u2++(fY w.heap.size (KW w) QW).N)).plus (dc o v1 v2++(dc o u1 u2++(fY w.heap.size (KW w) QW).N))).K (.slice B m c) 32 (bf p):=.inl hQ1
 have ku1:(((fY w.heap.size (KW w) QW).plus (dc o u1 u2++(fY w.heap.size (KW w) QW).N)).plus (dc o v1 v2++(dc o u1 u2++(fY w.heap.size (KW w) QW).N))).K (gJ u1) 1 ((o.getD ([],[])).1.flatMap c8):=eR (List.mem_append_right _ (List.mem_append_left _ (List.mem_cons_self ..)))
 have ku2:(((fY w.heap.size (KW w) QW).plus (dc o u1 u2++(fY w.heap.size (KW w) QW).N)).plus (dc o v1 v2++(dc o u1 u2++(fY w.heap.size (KW w) QW).N))).K (gJ u2) 1 ((o.getD ([],[])).2.flatMap c8):=eR (List.mem_append_right _ (List.mem_append_left _ (List.mem_cons_of_mem _ (List.mem_cons_self ..))))
 have kv1:(((fY w.heap.size (KW w) QW).plus (dc o u1 u2++(fY w.heap.size (KW w) QW).N)).plus (dc o v1 v2++(dc o u1 u2++(fY w.heap.size (KW w) QW).N))).K (gJ v1) 1 ((o.getD ([],[])).1.flatMap c8):=eR (List.mem_append_left _ (List.mem_cons_self ..))
 have kv2:(((fY w.heap.size (KW w) QW).plus (dc o u1 u2++(fY w.heap.size (KW w) QW).N)).plus (dc o v1 v2++(dc o u1 u2++(fY w.heap.size (KW w) QW).N))).K (gJ v2) 1 ((o.getD ([],[])).2.flatMap c8):=eR (List.mem_append_left _ (List.mem_cons_of_mem _ (List.mem_cons_self ..)))
 refine QC (.bool (decide (db key person count E S root k s x p))) (fun α=>⟨[⟨.int .i64 key,0,[]⟩,⟨aX person count root E S,0,[]⟩,⟨bR k s x (.slice B m c),0,[]⟩],QR,.inr ⟨.inl rfl,hL2,key,person,count,E,S,root,k,s,x,p,_,rfl,hP1,ff,gg,rfl⟩,ap rfl⟩) ?_
 refine QC (.bool (decide (db key person count E S root k s x p))) (fun α=>⟨[⟨.int .i64 key,0,[]⟩,⟨aX person count root E S,0,[]⟩,⟨bR k s x (.slice B m c),0,[]⟩],QR,.inr ⟨.inr rfl,hL2,key,person,count,E,S,root,k,s,x,p,_,rfl,hP1,ff,gg,rfl⟩,ap rfl⟩) ?_
 refine QB (.bool (decide (db key person count E S root k s x p) == decide (db key person count E S root k s x p))) ?_
 refine QD (decide (db key person count E S root k s x p) == decide (db key person count E S root k s x p)) (fun _=>?_) (fun h=>absurd h ai)
 refine QC (.string (bt (o.getD ([],[])).1)) (fun α=>⟨(bt (o.getD ([],[])).1).data.toList,u1.1,u1.2.1,u1.2.2,cast (by rw [th,fw];kernel_rfl) ku1,aa,ai⟩) ?_
 refine QC (.string (bt (o.getD ([],[])).1)) (fun α=>⟨(bt (o.getD ([],[])).1).data.toList,v1.1,v1.2.1,v1.2.2,cast (by rw [th,fw];kernel_rfl) kv1,aa,ai⟩) ?_
 refine QB (.bool (decide (bt (o.getD ([],[])).1=bt (o.getD ([],[])).1))) ?_
 refine QD (decide (bt (o.getD ([],[])).1=bt (o.getD ([],[])).1)) (fun _=>?_) (fun h=>absurd h ai)
 refine QC (.string (bt (o.getD ([],[])).2)) (fun α=>⟨(bt (o.getD ([],[])).2).data.toList,u2.1,u2.2.1,u2.2.2,cast (by rw [th,fw];kernel_rfl) ku2,aa,ai⟩) ?_
 refine QC (.string (bt (o.getD ([],[])).2)) (fun α=>⟨(bt (o.getD ([],[])).2).data.toList,v2.1,v2.2.1,v2.2.2,cast (by rw [th,fw];kernel_rfl) kv2,aa,ai⟩) ?_
 refine QB (.bool (decide (bt (o.getD ([],[])).2=bt (o.getD ([],[])).2))) ?_
 refine QD (decide (bt (o.getD ([],[])).2=bt (o.getD ([],[])).2)) (fun _=>?_) (fun h=>absurd h ai)
 refine QB (.bool (o.isSome == o.isSome)) ?_
 exact QE (.bool (o.isSome == o.isSome)) ai
end Go.Proofs.YtidekfgkpindbaaGreatDoor
namespace Go.Proofs.YtidekfgkpindbaaGreatDoor.sealsCheckSpec
open Go Go.ChangeShapes Go.WideShapes Go.ChangeAt Go.RowKit
theorem lifted(os:Os)(started:os.Started)(H:Type)(enc:TypeId×Value→H) :
 ReturnsInHanded {} Tryz.checked os 4 .any (fun w args=>(Rows.sealsCheckSpecSpec.pre enc Tryz.prog Tryz.f4 [] false w args∧laidMetH Tryz.prog ya w)∧sizedMet enc Tryz.prog Tryz.f4 (OpenSpec.ofChange Rows.sealsCheckSpecSpec) false w args)
  (Rows.sealsCheckSpecSpec.post enc Tryz.prog Tryz.f4 false true false false):=by
 refine returnsInHanded_of_change_and (C:=Tryz.checked) (X:=fun w _=>laidMetH Tryz.prog ya w) (fun _ _ _ hh h=>h.of_heap hh) PL started aa Tryz.func4
  (ChangeSpec.witness_shaped (enc:=enc) (C:=Tryz.checked) (os:=os) (X:=fun w _=>laidMetH Tryz.prog ya w) false (World.doorLaid Tryz.prog 400 os) #[.int .i64 0,aX 0 0 (fun _=>0) 0 0,bR 0 0 default (.slice none 0 0),bR 0 0 default (.slice none 0 0)] 8 rfl (World.shaped_of_RefB aa aa) aa aa aa (F1 os _)) ?_
 intro W base args ds gs before hval0 hW _ _ hL _
 have hval:∀ (j:Nat) t v,Tryz.f4.params[j]?=some t→args[j]?=some v→Value.okWide Tryz.prog W .any base t v:=hval0
 have hW':=hW
 obtain⟨p,q,hA0,hV,rfl,hfz,hnd⟩:=hW
 have hA:DataW.TrodAll enc Tryz.prog W 0 (fun _=>true) true Tryz.f4.params.toList args.toList ds p:=hA0
 rw [Tryz.params4]at hA hval
 obtain⟨v0,vs0,d0,ds0,p0,q0,hargs,rfl,rfl,h0,r0⟩:=trodAll_cons hA
 obtain⟨v1,vs1,d1,ds1,p1,q1,rfl,rfl,rfl,h1,r1⟩:=trodAll_cons r0
 obtain⟨v2,vs2,d2,ds2,p2,q2,rfl,rfl,rfl,h2,r2⟩:=trodAll_cons r1
 obtain⟨v3,vs3,d3,ds3,p3,q3,rfl,rfl,rfl,h3,r3⟩:=trodAll_cons r2
 obtain⟨rfl,rfl,rfl⟩:=trodAll_nil r3
 obtain rfl:args=#[v0,v1,v2,v3]:=by cases args;simp_all
 obtain⟨rfl,rfl⟩:=trodVars_none hV
 obtain⟨a0,rfl,rfl,rfl,w0⟩:=open_int Tryz.underlying3 (hval 0 3 v0 rfl rfl) h0
 obtain⟨person1,count1,E1,S1,root1,rfl,hp1,hc1⟩:=yw (hval 1 31 v1 rfl rfl) h1
 obtain⟨k2,s2,x2,A2,m2,c2,p2,rfl,⟨hk2,hs2,hx2⟩,hr2,hc2,hm2⟩:=uj (hval 2 41 v2 rfl rfl) h2
 obtain⟨k3,s3,x3,A3,m3,c3,p3,rfl,⟨hk3,hs3,hx3⟩,hr3,hc3,hm3⟩:=uj (hval 3 41 v3 rfl rfl) h3
 clear hA0 hval0
 have hlaid:=Aq hL
 refine(Dq a0 person1 count1 E1 S1 root1 k2 s2 x2 p2 A2 m2 c2 k3 s3 x3 p3 A3 m3 c3 W hr2 hc2 hr3 hc3 hk2 hx2 hs2 hk3 hx3 hs3 hp1 hc1 hlaid).mono fun e W' ⟨he,hb⟩=>?_
 subst he
 exact⟨_,rfl,Gz laidOut aa rfl hW' hb rfl rfl Tryz.underlying4⟩
theorem over:Rows.sealsCheckSpecRow.holds Tryz.pinned (OpenSpec.ofChange Rows.sealsCheckSpecSpec) :=
 OpenClaim.holds_of_wide 4 Tryz.f4 rfl rfl rfl rfl rfl rfl rfl ⟨rfl,rfl,rfl,rfl,rfl⟩ rfl rfl rfl rfl rfl aa Tryz.func4 aa
  (of_decide_eq_true aa) (by unfold Func.isWrapper;first|(rw [if_pos (by decide +kernel)];kernel_rfl)|(rw [if_neg (by decide +kernel)];exact⟨rfl,rfl⟩))
  (fun os started H enc _=>lifted os started H enc)
theorem proved:Rows.SealsCheckSpecCardSaid :=
 Claim7.holds_tied_plain_at .later [] [.data,.data] true (true, "b17c97499ac8d2360530066be6e8599482f8b417d971fa16015675d4a7c9a428") true
  over (fun _ h=>by cases h) aa (fun _ h=>by cases h) sealsCheckSpec_row_tie rfl ⟨rfl,rfl⟩ aa rfl
  (fun f fn hf hfn=>by
   obtain rfl:f=4:=Option.some.inj ((show Tryz.prog.funcNamed "kinesphere/kinespherelaw35.SealsCheckSpec" = some 4 by kernel_rfl).symm.trans hf) |>.symm
   obtain rfl:fn=Tryz.f4:=(Option.some.inj (Tryz.func4.symm.trans hfn)).symm
   exact⟨aa,fun j t ht=>by
    rw [Tryz.params4]at ht
    have hm:t∈[3,31,41,41]:=by simpa using Array.mem_of_getElem? ht
    have hall:([3,31,41,41].all fun u=>!Tryz.prog.wantsStandIn u)=true:=aa
    exact(show Tryz.prog.wantsStandIn t=false by simpa using List.all_eq_true.1 hall t hm)⟩)
  aa
#print axioms proved
end Go.Proofs.YtidekfgkpindbaaGreatDoor.sealsCheckSpec
