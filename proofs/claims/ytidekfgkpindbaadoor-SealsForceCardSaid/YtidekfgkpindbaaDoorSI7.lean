/-
  Texts behind the statement, part 7.
-/
import Derived.Test.YtidekfgkpindbaaDoorSI6
import Derived.Test.YtidekfgkpindbaaDoorSI5
import Derived.Test.YtidekfgkpindbaaDoorProg
import Derived.DeepKeys3
import Derived.Test.YtidekfgkpindbaaDoorSG1
import Derived.LaidMore
import Derived.Stop.Joined
import Derived.Stop.LaidErr
import Derived.Lib.LaidTab
import Derived.ChangeSlices
import Derived.MakeChecks
import Derived.DataElems
import Derived.WalkKit
import Derived.Lib.Hide
import Derived.Test.YtidekfgkpindbaaDoorRows
import Derived.WalkSpells
import Derived.WalkLawsBesides
import Derived.Laws.EntriesVeiled
import Derived.Deep.WholeRow
set_option linter.unusedSimpArgs false
set_option linter.unusedVariables false
namespace Go.Proofs.YtidekfgkpindbaaDoor
open Go Go.RowKit
theorem i_rem2{a:Nat}(ha:a<2 ^ 62):SX.binV .rem (.int .i64 (a:Int)) (.int .i64 (2:Int))=some (.int .i64 ((a % 2:Nat):Int)):=by
 have h2:(a:Int).tmod 2=((a % 2:Nat):Int):=by
  rw [Int.tmod_eq_emod_of_nonneg (by omega)];rfl
 simp only [SX.binV,if_true,h2]
 rw [if_neg (by decide)]
theorem i_eql0(a:Nat):SX.binV .eql (.int .i64 (a:Int)) (.int .i64 (0:Int))=some (.bool (decide (a=0))):=by
 have e:decide ((a:Int)=0)=decide (a=0):=by simp only [decide_eq_decide];omega
 rw [← e];rfl
namespace SX
theorem K_pl{C:Cx}{N:List Arg}{s:Value}{z:Nat}{xs:List Value}(h:C.K s z xs):(C.plus N).K s z xs:=.inl h
theorem K_mem{C:Cx}{N:List Arg}{s:Value}{z:Nat}{xs:List Value}(h:(⟨s,z,xs⟩:Arg)∈N):(C.plus N).K s z xs:=.inr h
end SX
theorem L_pl{C:SX.Cx}{N:List SX.Arg}(h:LaidK C.K):LaidK (C.plus N).K:=⟨.inl h.1,.inl h.2⟩
def climbE(n i:Nat)(d:Dg)(p:List Dg):Option Dg :=
 if h:n≤1 then(if p=[]then some d else none)
 else if n≤(i^^^1)then climbE ((n+1) / 2) (i / 2) d p
 else match p with
  | []=>none
  | q::r=>if i % 2=0 then climbE ((n+1) / 2) (i / 2) (dgH (ndX d q)) r else climbE ((n+1) / 2) (i / 2) (dgH (ndX q d)) r
termination_by n
decreasing_by all_goals omega
theorem climb_one{n i:Nat}{d:Dg}{p:List Dg}(h:n≤1):climbE n i d p=if p=[]then some d else none:=by rw [climbE.eq_def,dif_pos h]
theorem climb_alone{n i:Nat}{d:Dg}{p:List Dg}(h:¬ n≤1)(h2:n≤(i^^^1)):climbE n i d p=climbE ((n+1) / 2) (i / 2) d p:=by conv=>lhs;rw [climbE.eq_def,dif_neg h,if_pos h2]
theorem climb_nil{n i:Nat}{d:Dg}(h:¬ n≤1)(h2:¬ n≤(i^^^1)):climbE n i d []=none:=by rw [climbE,dif_neg h,if_neg h2]
theorem climb_right{n i:Nat}{d q:Dg}{r:List Dg}(h:¬ n≤1)(h2:¬ n≤(i^^^1))(h3:i % 2=0):climbE n i d (q::r)=climbE ((n+1) / 2) (i / 2) (dgH (ndX d q)) r:=by conv=>lhs;rw [climbE,dif_neg h,if_neg h2];simp only [h3,if_true]
theorem climb_left{n i:Nat}{d q:Dg}{r:List Dg}(h:¬ n≤1)(h2:¬ n≤(i^^^1))(h3:¬ i % 2=0):climbE n i d (q::r)=climbE ((n+1) / 2) (i / 2) (dgH (ndX q d)) r:=by conv=>lhs;rw [climbE,dif_neg h,if_neg h2];simp only [h3,if_false]
def climbV:Option Dg→Value
 | some d=>.tuple #[dgV d,.int .i64 0]
 | none=>.tuple #[dgV (fun _=>0),.int .i64 70]
abbrev Hd3:=Option Addr×Nat×Nat
def cellsH3(t:Hd3):List Value:=[.slice t.1 t.2.1 t.2.2]
theorem cellsH3_one(t:Hd3):∀ u∈cellsH3 t,u.oneCell'=true:=by intro u hu;rw [List.mem_singleton.1 hu];rfl
noncomputable def cxM4(K A:Value→Nat→List Value→Prop):SX.Cx:={ P:=Tryd.prog,R:=fun K f xs v=>SumR K f xs v∨TextR K f xs v∨NodeR K f xs v,shp:=shpM3,K:=K,A:=A,trm:=true,la:=true,tl:=[79] }
theorem okM4(K A:Value→Nat→List Value→Prop):(cxM4 K A).Ok:=by
 refine SX.Cx.ok_of (fun _=>rfl) ?_
 intro K f xs v W hR hrd hKf
 rcases hR with hR|hR|hR
 ·have hf:=hR.1
  exact(sumR_calls hR hrd hKf).mono fun e w' h=>SX.plainOk (by subst hf;rfl) h
 ·exact text_calls hR rfl hrd hKf
 exact node_calls hR rfl hKf
def tree_mclimb:SX.Tree :=
(.df (.bin .gtr 3) [(.q 0),(.i 65536)] .one
(.br 4 []
(.ret (.t [(.a [(.k (.int .u8 0)),(.k (.int .u8 0)),(.k (.int .u8 0)),(.k (.int .u8 0)),(.k (.int .u8 0)),(.k (.int .u8 0)),(.k (.int .u8 0)),(.k (.int .u8 0)),(.k (.int .u8 0)),(.k (.int .u8 0)),(.k (.int .u8 0)),(.k (.int .u8 0)),(.k (.int .u8 0)),(.k (.int .u8 0)),(.k (.int .u8 0)),(.k (.int .u8 0)),(.k (.int .u8 0)),(.k (.int .u8 0)),(.k (.int .u8 0)),(.k (.int .u8 0)),(.k (.int .u8 0)),(.k (.int .u8 0)),(.k (.int .u8 0)),(.k (.int .u8 0)),(.k (.int .u8 0)),(.k (.int .u8 0)),(.k (.int .u8 0)),(.k (.int .u8 0)),(.k (.int .u8 0)),(.k (.int .u8 0)),(.k (.int .u8 0)),(.k (.int .u8 0))]),(.i 1)]) [none] [])
(.df (.bin .lss 3) [(.q 1),(.i 0)] .one
(.br 5 []
(.ret (.t [(.a [(.k (.int .u8 0)),(.k (.int .u8 0)),(.k (.int .u8 0)),(.k (.int .u8 0)),(.k (.int .u8 0)),(.k (.int .u8 0)),(.k (.int .u8 0)),(.k (.int .u8 0)),(.k (.int .u8 0)),(.k (.int .u8 0)),(.k (.int .u8 0)),(.k (.int .u8 0)),(.k (.int .u8 0)),(.k (.int .u8 0)),(.k (.int .u8 0)),(.k (.int .u8 0)),(.k (.int .u8 0)),(.k (.int .u8 0)),(.k (.int .u8 0)),(.k (.int .u8 0)),(.k (.int .u8 0)),(.k (.int .u8 0)),(.k (.int .u8 0)),(.k (.int .u8 0)),(.k (.int .u8 0)),(.k (.int .u8 0)),(.k (.int .u8 0)),(.k (.int .u8 0)),(.k (.int .u8 0)),(.k (.int .u8 0)),(.k (.int .u8 0)),(.k (.int .u8 0))]),(.i 1)]) [none] [])
(.df (.bin .geq 3) [(.q 1),(.q 0)] .one
(.br 6 []
(.ret (.t [(.a [(.k (.int .u8 0)),(.k (.int .u8 0)),(.k (.int .u8 0)),(.k (.int .u8 0)),(.k (.int .u8 0)),(.k (.int .u8 0)),(.k (.int .u8 0)),(.k (.int .u8 0)),(.k (.int .u8 0)),(.k (.int .u8 0)),(.k (.int .u8 0)),(.k (.int .u8 0)),(.k (.int .u8 0)),(.k (.int .u8 0)),(.k (.int .u8 0)),(.k (.int .u8 0)),(.k (.int .u8 0)),(.k (.int .u8 0)),(.k (.int .u8 0)),(.k (.int .u8 0)),(.k (.int .u8 0)),(.k (.int .u8 0)),(.k (.int .u8 0)),(.k (.int .u8 0)),(.k (.int .u8 0)),(.k (.int .u8 0)),(.k (.int .u8 0)),(.k (.int .u8 0)),(.k (.int .u8 0)),(.k (.int .u8 0)),(.k (.int .u8 0)),(.k (.int .u8 0))]),(.i 1)]) [none] [])
(.df (.call 80 [.no,(.own 1 [(.q 2)])]) [(.k (.string ⟨#[108,101,97,102]⟩)),(.sl 7 0 1 1)] (.sl 1)
(.df (.lastq 1) [(.cat [(.q 7)])] .one
(.df (.app 1 24 (.own 1 [(.q 8)])) [(.cat []),(.sl 9 0 1 1)] .any
(.df (.call 65 [(.ext 1)]) [(.q 8)] (.ag 32)
(.df (.app 32 32 (.own 32 (SX.Y 10 0 32))) [(.cat []),(.sl 15 0 1 1)] .any
(.loop [(.q 0),(.q 1),(.q 3),(.cat [(.q 11)]),(.cat [(.q 9)])] [.one,.one,.one,.any,.any]
(.df (.bin .gtr 3) [(.q 12),(.i 1)] .one
(.br 17 []
(.df (.bin .xor 3) [(.q 13),(.i 1)] .one
(.df (.bin .geq 3) [(.q 18),(.q 12)] .one
(.df (.bin .rem 3) [(.q 13),(.i 2)] .one
(.df (.bin .eql 3) [(.q 20),(.i 0)] .one
(.df (.rlen 32) [(.cat [(.q 15)])] .one
(.df (.bin .sub 3) [(.q 22),(.i 1)] .one
(.df (.rbnd 32) [(.cat [(.q 15)]),(.q 23)] .one
(.df (.relems 32 0 32) [(.cat [(.q 15)]),(.q 23)] (.ag 32)
(.br 19 []
(.df (.app 1 24 (.own 1 [(.k (.slice none 0 0))])) [(.cat [(.q 16)]),(.sl 29 0 1 1)] .any
(.df (.app 32 32 (.own 32 (SX.Y 25 0 32))) [(.cat [(.q 15)]),(.sl 34 0 1 1)] .any
(.df (.bin .add 3) [(.q 12),(.i 1)] .one
(.df (.bin .quo 3) [(.q 28),(.i 2)] .one
(.df (.bin .quo 3) [(.q 13),(.i 2)] .one
(.again 0 [(.q 29),(.q 30),(.q 14),(.cat [(.q 15),(.q 27)]),(.cat [(.q 16),(.q 26)])]))))))
(.df (.len false) [(.q 14)] .one
(.df (.bin .eql 3) [(.q 26),(.i 0)] .one
(.br 27 []
(.ret (.t [(.a [(.k (.int .u8 0)),(.k (.int .u8 0)),(.k (.int .u8 0)),(.k (.int .u8 0)),(.k (.int .u8 0)),(.k (.int .u8 0)),(.k (.int .u8 0)),(.k (.int .u8 0)),(.k (.int .u8 0)),(.k (.int .u8 0)),(.k (.int .u8 0)),(.k (.int .u8 0)),(.k (.int .u8 0)),(.k (.int .u8 0)),(.k (.int .u8 0)),(.k (.int .u8 0)),(.k (.int .u8 0)),(.k (.int .u8 0)),(.k (.int .u8 0)),(.k (.int .u8 0)),(.k (.int .u8 0)),(.k (.int .u8 0)),(.k (.int .u8 0)),(.k (.int .u8 0)),(.k (.int .u8 0)),(.k (.int .u8 0)),(.k (.int .u8 0)),(.k (.int .u8 0)),(.k (.int .u8 0)),(.k (.int .u8 0)),(.k (.int .u8 0)),(.k (.int .u8 0))]),(.i 70)]) (List.replicate 28 none) [])
(.br 21 []
(.df .bnd [(.q 14),(.i 0)] .one
(.df (.elems 32 0 32) [(.q 14),(.i 0)] (.ag 32)
(.df (.call 82 [.no,.no]) [(.a (SX.Y 25 0 32)),(.a (SX.Y 29 0 32))] (.sl 1)
(.df (.lastq 1) [(.cat [(.q 30)])] .one
(.df (.app 1 24 (.own 1 [(.q 31)])) [(.cat [(.q 16)]),(.sl 33 0 1 1)] .any
(.df (.call 65 [(.ext 1)]) [(.q 31)] (.ag 32)
(.df (.app 32 32 (.own 32 (SX.Y 33 0 32))) [(.cat [(.q 15)]),(.sl 39 0 1 1)] .any
(.df (.slc false 32 true false false) [(.q 14),(.i 1)] .one
(.df (.bin .add 3) [(.q 12),(.i 1)] .one
(.df (.bin .quo 3) [(.q 36),(.i 2)] .one
(.df (.bin .quo 3) [(.q 13),(.i 2)] .one
(.again 0 [(.q 37),(.q 38),(.q 35),(.cat [(.q 15),(.q 34)]),(.cat [(.q 16),(.q 32)])]))))))))))))
(.df .bnd [(.q 14),(.i 0)] .one
(.df (.elems 32 0 32) [(.q 14),(.i 0)] (.ag 32)
(.df (.call 82 [.no,.no]) [(.a (SX.Y 29 0 32)),(.a (SX.Y 25 0 32))] (.sl 1)
(.df (.lastq 1) [(.cat [(.q 30)])] .one
(.df (.app 1 24 (.own 1 [(.q 31)])) [(.cat [(.q 16)]),(.sl 33 0 1 1)] .any
(.df (.call 65 [(.ext 1)]) [(.q 31)] (.ag 32)
(.df (.app 32 32 (.own 32 (SX.Y 33 0 32))) [(.cat [(.q 15)]),(.sl 39 0 1 1)] .any
(.df (.slc false 32 true false false) [(.q 14),(.i 1)] .one
(.df (.bin .add 3) [(.q 12),(.i 1)] .one
(.df (.bin .quo 3) [(.q 36),(.i 2)] .one
(.df (.bin .quo 3) [(.q 13),(.i 2)] .one
(.again 0 [(.q 37),(.q 38),(.q 35),(.cat [(.q 15),(.q 34)]),(.cat [(.q 16),(.q 32)])])))))))))))))))))))))))))
(.df (.len false) [(.q 14)] .one
(.df (.bin .eql 3) [(.q 18),(.i 0)] .one
(.df .not [(.q 19)] .one
(.br 20 []
(.ret (.t [(.a [(.k (.int .u8 0)),(.k (.int .u8 0)),(.k (.int .u8 0)),(.k (.int .u8 0)),(.k (.int .u8 0)),(.k (.int .u8 0)),(.k (.int .u8 0)),(.k (.int .u8 0)),(.k (.int .u8 0)),(.k (.int .u8 0)),(.k (.int .u8 0)),(.k (.int .u8 0)),(.k (.int .u8 0)),(.k (.int .u8 0)),(.k (.int .u8 0)),(.k (.int .u8 0)),(.k (.int .u8 0)),(.k (.int .u8 0)),(.k (.int .u8 0)),(.k (.int .u8 0)),(.k (.int .u8 0)),(.k (.int .u8 0)),(.k (.int .u8 0)),(.k (.int .u8 0)),(.k (.int .u8 0)),(.k (.int .u8 0)),(.k (.int .u8 0)),(.k (.int .u8 0)),(.k (.int .u8 0)),(.k (.int .u8 0)),(.k (.int .u8 0)),(.k (.int .u8 0))]),(.i 70)]) (List.replicate 26 none) [])
(.df (.rlen 32) [(.cat [(.q 15)])] .one
(.df (.bin .sub 3) [(.q 21),(.i 1)] .one
(.df (.rbnd 32) [(.cat [(.q 15)]),(.q 22)] .one
(.df (.relems 32 0 32) [(.cat [(.q 15)]),(.q 22)] (.ag 32)
(.ret (.t [(.a (SX.Y 24 0 32)),(.i 0)]) (List.replicate 26 none) [])))))))))))))))))))))))
def args_mclimb:List SX.V:=[.x 0 [],.x 1 [],.x 2 [],.x 3 []]
def cfgClimb:SX.Cfg:=⟨fun f=>true,[⟨91,0,[(.c 17 0,.one),(.c 18 0,.one),(.c 1 0,.one),(.c 2 0,.row 32 23),(.c 2 1,.row 1 57)]⟩],12,100⟩
set_option maxRecDepth 100000 in
theorem run_mclimb(K A:Value→Nat→List Value→Prop):(SX.run (cxM4 K A) cfgClimb 100000 0 (SX.door 39 Tryd.f39 args_mclimb [.one,.one,.one,.one]) [.code (Tryd.f39.body.getD .skip),.top Tryd.f39]).strip=tree_mclimb:=by kernel_rfl
set_option maxRecDepth 100000 in
set_option maxHeartbeats 4000000 in
theorem climb_any(n i:Nat)(lf:List W8)(p:List Dg)(A:Option Addr)(k e:Nat)(B:Option Addr)(m c:Nat)(w:World)(hi:i<n)(hn:n≤65536)(hrl:Rd w 1 A k (lf.flatMap c8))(hce:k≤e)(hlf:lf≠[])(hlfl:lf.length≤17592186044416)(hr:Rd w 32 B m (dgs p))(hc:m≤c)(hlaid:Laid w):Calls Tryd.prog 39 #[.int .i64 (n:Int),.int .i64 (i:Int),.slice A k e,.slice B m c] w fun e w'=>e=.returned (climbV (climbE n i (dgH (lfX lf)) p))∧Below w.heap.size w w':=by
 refine SX.calls_of_run (C:=cxM4 (KW w) (fun _ _ _=>False)) (G:=cfgClimb) (args:=args_mclimb) (sh:=[.one,.one,.one,.one]) (ρ:=[.int .i64 (n:Int),.int .i64 (i:Int),.slice A k e,.slice B m c]) 100000 tree_mclimb (okM4 _ _) Tryd.func39 rfl (run_mclimb _ _) (by kernel_rfl) (by kernel_rfl) (by kernel_rfl) ?_ ?_ ⟨rfl,Nat.zero_le _⟩ (fun _ s sz cells h=>h.elim)
 ·exact fun W hW v z xs h=>h W hW
 have hL:LaidK (cxM4 (KW w) (fun _ _ _=>False)).K:=KW_laid hlaid
 have hKl:KW w (.slice A k e) 1 (lf.flatMap c8):=fun W hW=>⟨hrl.same0 hW,hce⟩
 have hX:=lfX_len lf
 have hXe:lfX lf=sumE (sb leafT)++[((.slice A k e:Value),lf)].flatMap (·.2):=by simp only [lfX,List.flatMap_cons,List.flatMap_nil,List.append_nil]
 generalize lfX lf=X at *
 unfold tree_mclimb
 refine SX.E (.bool (decide (65536<n))) (fun α=>cast (by kernel_rfl) (gtr_nat n 65536)) ?_
 refine SX.B (decide (65536<n)) (fun h=>absurd (of_decide_eq_true h) (by omega)) (fun _=>?_)
 refine SX.E (.bool (decide (i<0))) (fun α=>cast (by kernel_rfl) (lss_nat i 0)) ?_
 refine SX.B (decide (i<0)) (fun h=>absurd (of_decide_eq_true h) (by omega)) (fun _=>?_)
 refine SX.E (.bool (decide (n≤i))) (fun α=>cast (by kernel_rfl) (geq_nat i n)) ?_
 refine SX.B (decide (n≤i)) (fun h=>absurd (of_decide_eq_true h) (by omega)) (fun _=>?_)
 refine SX.VC_df (.agg (X.flatMap c8).toArray) (fun α=>⟨[⟨.string leafT,0,[]⟩,⟨.slice (some ⟨(α 7).b,0,none⟩) 1 1,1,[.slice A k e]⟩],⟨by kernel_rfl,by kernel_rfl,by kernel_rfl,trivial⟩,.inr (.inl ⟨rfl,hL,leafT,(α 7).b,0,1,1,[(.slice A k e,lf)],rfl,(fun q hq=>by rw [List.mem_singleton.1 hq];exact hKl),by decide,by simp,by simp,by simp only [List.flatMap_cons,List.flatMap_nil,List.append_nil];omega,by simpa using hlf,by rw [hXe]⟩),SX.noAli rfl⟩) (encs_fit _) ?_
 refine SX.VC_dn (fun v N=>∃ A2 n2 c2,v=.slice A2 n2 c2∧N=[⟨.slice A2 n2 c2,1,X.flatMap c8⟩]) (fun _=>rfl) (fun α A2 n2 c2 _ _ _=>⟨A2,n2,c2,rfl,Eq.trans (b:=[⟨.slice A2 n2 c2,1,[Value.agg ([Value.agg (X.flatMap c8).toArray].flatMap SX.cellsV).toArray].flatMap SX.cellsV⟩]) (by kernel_rfl) (by simp [SX.cellsV])⟩) ?_
 rintro _ _-⟨A2,n2,c2,rfl,rfl⟩
 refine SX.E (.agg ([((A2,n2,c2):Hd3)].flatMap cellsH3).toArray) (fun α=>SX.app_rel (f:=cellsH3) (l1:=[]) (l2:=[((A2,n2,c2):Hd3)]) (fun _=>rfl) cellsH3_one (by decide) (by kernel_rfl) (SX.src_own (by kernel_rfl)) (by simp) (by simp)) ?_
 refine SX.E (dgV (dgH X)) (fun α=>⟨[⟨.slice A2 n2 c2,1,X.flatMap c8⟩],⟨by kernel_rfl,rfl,cast (by kernel_rfl) (SX.K_mem (C:=cxM4 (KW w) (fun _ _ _=>False)) (N:=[⟨.slice A2 n2 c2,1,X.flatMap c8⟩]++[]) (List.mem_singleton.2 rfl)),trivial⟩,.inl (sumR_mk (L_pl hL) (by omega)),SX.noAli rfl⟩) ?_
 generalize dgH X=D at *
 refine SX.E (.agg ([D].flatMap cellsDg).toArray) (fun α=>SX.app_rel (f:=cellsDg) (l1:=[]) (l2:=[D]) (fun _=>rfl) cellsDg_one (by decide) (by kernel_rfl) ⟨⟨.slice (some ⟨(α 15).b,0,none⟩) 1 1,32,[D].flatMap cellsDg⟩,⟨by kernel_rfl,trivial⟩,rfl,rfl⟩ (by simp) (by simp)) ?_
 have hL1:LaidK ((cxM4 (KW w) (fun _ _ _=>False)).plus ([⟨.slice A2 n2 c2,1,X.flatMap c8⟩]++(cxM4 (KW w) (fun _ _ _=>False)).N)).K:=L_pl hL
 have hK1:∀ s z xs,KW w s z xs→((cxM4 (KW w) (fun _ _ _=>False)).plus ([⟨.slice A2 n2 c2,1,X.flatMap c8⟩]++(cxM4 (KW w) (fun _ _ _=>False)).N)).K s z xs:=fun s z xs h=>.inl h
 refine SX.VC_loopN (fun xs N=>∃ (n1 i1:Nat) (B1:Option Addr) (m1 c1:Nat) (q acc:List Dg) (d:Dg) (T:List Hd3),xs=[.int .i64 (n1:Int),.int .i64 (i1:Int),.slice B1 m1 c1,.agg (dgs (acc++[d])).toArray,.agg (T.flatMap cellsH3).toArray]∧i1<65536∧n1≤65536∧Rd w 32 B1 m1 (dgs q)∧m1≤c1∧q.length=m1∧acc.length+n1≤65537∧T.length=acc.length+1∧climbE n1 i1 d q=climbE n i D p) (fun xs=>match xs with|.int _ i::_=>i.toNat|_=>0) (fun _=>rfl) (fun α=>⟨[],(fun y hy=>nomatch hy),n,i,B,m,c,p,[],D,[(A2,n2,c2)],Eq.trans (b:=[.int .i64 (n:Int),.int .i64 (i:Int),.slice B m c,.agg ([Value.agg ([D].flatMap cellsDg).toArray].flatMap SX.cellsV).toArray,.agg ([Value.agg ([((A2,n2,c2):Hd3)].flatMap cellsH3).toArray].flatMap SX.cellsV).toArray]) (by kernel_rfl) (by simp [SX.cellsV,dgs]),by omega,hn,hr,hc,by have:=hr.1;rw [dgs_len]at this;omega,by simp;omega,rfl,rfl⟩) ?_
 rintro xs N-⟨n1,i1,B1,m1,c1,q,acc,d,T,rfl,hi1,hn1,hr1,hc1,hm1,hac,hT,hI⟩
 have hL2:=L_pl (N:=N) hL1
 have hKq:=SX.K_pl (N:=N) (hK1 (.slice B1 m1 c1) 32 (dgs q) fun W hW=>⟨hr1.same0 hW,hc1⟩)
 have hB1:=SX.rd_some hr1
 refine SX.E (.bool (decide (1<n1))) (fun α=>cast (by kernel_rfl) (gtr_nat n1 1)) ?_
 refine SX.B (decide (1<n1)) (fun h1=>?_) (fun h1=>?_)
 ·have h1:1<n1:=by simpa using h1
  refine SX.E (.int .i64 ((i1^^^1:Nat):Int)) (fun α=>cast (by kernel_rfl) (i_xor1 (a:=i1) (by omega))) ?_
  refine SX.E (.bool (decide (n1≤(i1^^^1)))) (fun α=>cast (by kernel_rfl) (geq_nat (i1^^^1) n1)) ?_
  refine SX.E (.int .i64 ((i1 % 2:Nat):Int)) (fun α=>cast (by kernel_rfl) (i_rem2 (a:=i1) (by omega))) ?_
  refine SX.E (.bool (decide (i1 % 2=0))) (fun α=>cast (by kernel_rfl) (i_eql0 (i1 % 2))) ?_
  have hlast:(acc++[d])[acc.length]?=some d:=by simp
  refine SX.E (.int .i64 (((acc++[d]).length:Nat):Int)) (fun α=>SX.rlenD (f:=cellsDg) (l:=acc++[d]) (fun _=>rfl) (by decide) (SX.cat1 (j:=15) (by kernel_rfl))) ?_
  refine SX.E (.int .i64 ((acc.length:Nat):Int)) (fun α=>cast (by kernel_rfl) (i_sub' (a:=(acc++[d]).length) (b:=1) (d:=acc.length) (by simp) (by simp;omega))) ?_
  refine SX.E (.bool true) (fun α=>SX.row_bnd (f:=cellsDg) (l:=acc++[d]) (k:=acc.length) (fun _=>rfl) (by decide) (SX.cat1 (j:=15) (by kernel_rfl)) (by kernel_rfl) (by simp)) ?_
  refine SX.E (dgV d) (fun α=>SX.relemsD (k:=acc.length) (f:=cellsDg) (l:=acc++[d]) (fun _=>rfl) (by decide) (SX.cat1 (j:=15) (by kernel_rfl)) (by kernel_rfl) hlast) ?_
  refine SX.B (decide (n1≤(i1^^^1))) (fun h2=>?_) (fun h2=>?_)
  ·have h2:n1≤(i1^^^1):=by simpa using h2
   refine SX.E (.agg ([((none,0,0):Hd3)].flatMap cellsH3).toArray) (fun α=>SX.app_rel (f:=cellsH3) (l1:=T) (l2:=[((none,0,0):Hd3)]) (fun _=>rfl) cellsH3_one (by decide) (SX.cat1 (j:=16) (by kernel_rfl)) (SX.src_own (by kernel_rfl)) (by simp;omega) (by simp;omega)) ?_
   refine SX.E (.agg ([d].flatMap cellsDg).toArray) (fun α=>SX.app_rel (f:=cellsDg) (l1:=acc++[d]) (l2:=[d]) (fun _=>rfl) cellsDg_one (by decide) (SX.cat1 (j:=15) (by kernel_rfl)) ⟨⟨.slice (some ⟨(α 34).b,0,none⟩) 1 1,32,[d].flatMap cellsDg⟩,⟨by kernel_rfl,trivial⟩,rfl,rfl⟩ (by simp;omega) (by simp;omega)) ?_
   refine SX.E (.int .i64 ((n1+1:Nat):Int)) (fun α=>cast (by kernel_rfl) (i_add' (a:=n1) (b:=1) (d:=n1+1) rfl (by omega))) ?_
   refine SX.E (.int .i64 (((n1+1) / 2:Nat):Int)) (fun α=>cast (by kernel_rfl) (i_quo2 (a:=n1+1) (by omega))) ?_
   refine SX.E (.int .i64 ((i1 / 2:Nat):Int)) (fun α=>cast (by kernel_rfl) (i_quo2 (a:=i1) (by omega))) ?_
   exact SX.VC_again fun α=>⟨rfl,[],(fun y hy=>nomatch hy),⟨(n1+1) / 2,i1 / 2,_,m1,c1,q,acc++[d],d,T++[(none,0,0)],Eq.trans (b:=[.int .i64 (((n1+1) / 2:Nat):Int),.int .i64 ((i1 / 2:Nat):Int),.slice B1 m1 c1,.agg ([Value.agg (dgs (acc++[d])).toArray,.agg ([d].flatMap cellsDg).toArray].flatMap SX.cellsV).toArray,.agg ([Value.agg (T.flatMap cellsH3).toArray,.agg ([(none,0,0)].flatMap cellsH3).toArray].flatMap SX.cellsV).toArray]) (by kernel_rfl) (by simp [SX.cellsV,dgs,SX.subS]),by omega,by omega,hr1,hc1,hm1,by simp;omega,by simp [hT],by rw [← hI];exact(climb_alone (by omega) h2).symm⟩,cast (by kernel_rfl) (show(((n1+1) / 2:Nat):Int).toNat<(n1:Int).toNat by omega)⟩
  have h2:¬ n1≤(i1^^^1):=by simpa using h2
  refine SX.D (.int .i64 (m1:Int)) ?_
  refine SX.E (.bool (decide (m1=0))) (fun α=>cast (by kernel_rfl) (i_eql0 m1)) ?_
  refine SX.B (decide (m1=0)) (fun hm0=>?_) (fun hm0=>?_)
  ·have hm0:m1=0:=by simpa using hm0
   have hq:q=[]:=List.eq_nil_of_length_eq_zero (by omega)
   have hE:climbE n i D p=none:=by rw [← hI,hq];exact climb_nil (by omega) h2
   rw [hE]
   exact SX.F (.tuple #[dgV (fun _=>0),.int .i64 70]) rfl
  have hm0:0<m1:=by
   have:¬ m1=0:=by simpa using hm0
   omega
  rcases q with _|⟨q0,q⟩
  ·simp at hm1;omega
  simp only [List.length_cons]at hm1
  refine SX.B (decide (i1 % 2=0)) (fun h3=>?_) (fun h3=>?_)
  ·have h3:i1 % 2=0:=by simpa using h3
   refine SX.E (.bool true) (fun α=>SX.extBnd (A:=B1) (n:=m1) (c:=c1) (j:=0) hB1 (by kernel_rfl) (by kernel_rfl) hm0) ?_
   refine SX.E (dgV q0) (fun α=>SX.extElems (f:=cellsDg) (l:=q0::q) (A:=B1) (n:=m1) (c:=c1) (j:=0) (z:=q0) (fun _=>rfl) hB1 (by kernel_rfl) (by kernel_rfl) hm0 (cast (by kernel_rfl) hKq) rfl) ?_
   have hY:=ndX_len d q0
   have hE:climbE ((n1+1) / 2) (i1 / 2) (dgH (ndX d q0)) q=climbE n i D p:=by rw [← hI];exact(climb_right (by omega) (by omega) h3).symm
   refine SX.VC_df (.agg ((ndX d q0).flatMap c8).toArray) (fun α=>⟨[⟨dgV d,0,[]⟩,⟨dgV q0,0,[]⟩],⟨by kernel_rfl,by kernel_rfl,by kernel_rfl,by kernel_rfl,trivial⟩,.inr (.inr ⟨rfl,hL2,d,q0,rfl,rfl⟩),SX.noAli rfl⟩) (encs_fit _) ?_
   generalize ndX d q0=Y at *
   refine SX.VC_dn (fun v N=>∃ A3 n3 c3,v=.slice A3 n3 c3∧N=[⟨.slice A3 n3 c3,1,Y.flatMap c8⟩]) (fun _=>rfl) (fun α A3 n3 c3 _ _ _=>⟨A3,n3,c3,rfl,Eq.trans (b:=[⟨.slice A3 n3 c3,1,[Value.agg ([Value.agg (Y.flatMap c8).toArray].flatMap SX.cellsV).toArray].flatMap SX.cellsV⟩]) (by kernel_rfl) (by simp [SX.cellsV])⟩) ?_
   have hKm:∀ (A3:Option Addr) (n3 c3:Nat),((((cxM4 (KW w) (fun _ _ _=>False)).plus ([⟨.slice A2 n2 c2,1,X.flatMap c8⟩]++(cxM4 (KW w) (fun _ _ _=>False)).N)).plus N).plus ([⟨.slice A3 n3 c3,1,Y.flatMap c8⟩]++(((cxM4 (KW w) (fun _ _ _=>False)).plus ([⟨.slice A2 n2 c2,1,X.flatMap c8⟩]++(cxM4 (KW w) (fun _ _ _=>False)).N)).plus N).N)).K (.slice A3 n3 c3) 1 (Y.flatMap c8):=fun A3 n3 c3=>SX.K_mem (List.mem_append_left _ (List.mem_singleton.2 rfl))
   rintro _ _-⟨A3,n3,c3,rfl,rfl⟩
   refine SX.E (.agg ([((A3,n3,c3):Hd3)].flatMap cellsH3).toArray) (fun α=>SX.app_rel (f:=cellsH3) (l1:=T) (l2:=[((A3,n3,c3):Hd3)]) (fun _=>rfl) cellsH3_one (by decide) (SX.cat1 (j:=16) (by kernel_rfl)) (SX.src_own (by kernel_rfl)) (by simp;omega) (by simp;omega)) ?_
   refine SX.E (dgV (dgH Y)) (fun α=>⟨[⟨.slice A3 n3 c3,1,Y.flatMap c8⟩],⟨by kernel_rfl,rfl,cast (by kernel_rfl) (hKm A3 n3 c3),trivial⟩,.inl (sumR_mk (L_pl hL2) (by omega)),SX.noAli rfl⟩) ?_
   generalize dgH Y=DY at *
   refine SX.E (.agg ([DY].flatMap cellsDg).toArray) (fun α=>SX.app_rel (f:=cellsDg) (l1:=acc++[d]) (l2:=[DY]) (fun _=>rfl) cellsDg_one (by decide) (SX.cat1 (j:=15) (by kernel_rfl)) ⟨⟨.slice (some ⟨(α 39).b,0,none⟩) 1 1,32,[DY].flatMap cellsDg⟩,⟨by kernel_rfl,trivial⟩,rfl,rfl⟩ (by simp;omega) (by simp;omega)) ?_
   refine SX.E (SX.subS B1 32 1 m1 c1) (fun α=>SX.slc_lo (A:=B1) (n:=m1) (c:=c1) (k:=1) (by kernel_rfl) (by kernel_rfl) hm0) ?_
   refine SX.E (.int .i64 ((n1+1:Nat):Int)) (fun α=>cast (by kernel_rfl) (i_add' (a:=n1) (b:=1) (d:=n1+1) rfl (by omega))) ?_
   refine SX.E (.int .i64 (((n1+1) / 2:Nat):Int)) (fun α=>cast (by kernel_rfl) (i_quo2 (a:=n1+1) (by omega))) ?_
   refine SX.E (.int .i64 ((i1 / 2:Nat):Int)) (fun α=>cast (by kernel_rfl) (i_quo2 (a:=i1) (by omega))) ?_
   exact SX.VC_again fun α=>⟨rfl,[],(fun y hy=>nomatch hy),⟨(n1+1) / 2,i1 / 2,_,m1-1,c1-1,q,acc++[d],DY,T++[(A3,n3,c3)],Eq.trans (b:=[.int .i64 (((n1+1) / 2:Nat):Int),.int .i64 ((i1 / 2:Nat):Int),SX.subS B1 32 1 m1 c1,.agg ([Value.agg (dgs (acc++[d])).toArray,.agg ([DY].flatMap cellsDg).toArray].flatMap SX.cellsV).toArray,.agg ([Value.agg (T.flatMap cellsH3).toArray,.agg ([(A3,n3,c3)].flatMap cellsH3).toArray].flatMap SX.cellsV).toArray]) (by kernel_rfl) (by simp [SX.cellsV,dgs,SX.subS]),by omega,by omega,hr1.cut hm0 hc1,by omega,by omega,by simp;omega,by simp [hT],hE⟩,cast (by kernel_rfl) (show(((n1+1) / 2:Nat):Int).toNat<(n1:Int).toNat by omega)⟩
  have h3:¬ i1 % 2=0:=by simpa using h3
  refine SX.E (.bool true) (fun α=>SX.extBnd (A:=B1) (n:=m1) (c:=c1) (j:=0) hB1 (by kernel_rfl) (by kernel_rfl) hm0) ?_
  refine SX.E (dgV q0) (fun α=>SX.extElems (f:=cellsDg) (l:=q0::q) (A:=B1) (n:=m1) (c:=c1) (j:=0) (z:=q0) (fun _=>rfl) hB1 (by kernel_rfl) (by kernel_rfl) hm0 (cast (by kernel_rfl) hKq) rfl) ?_
  have hY:=ndX_len q0 d
  have hE:climbE ((n1+1) / 2) (i1 / 2) (dgH (ndX q0 d)) q=climbE n i D p:=by rw [← hI];exact(climb_left (by omega) (by omega) h3).symm
  refine SX.VC_df (.agg ((ndX q0 d).flatMap c8).toArray) (fun α=>⟨[⟨dgV q0,0,[]⟩,⟨dgV d,0,[]⟩],⟨by kernel_rfl,by kernel_rfl,by kernel_rfl,by kernel_rfl,trivial⟩,.inr (.inr ⟨rfl,hL2,q0,d,rfl,rfl⟩),SX.noAli rfl⟩) (encs_fit _) ?_
  generalize ndX q0 d=Y at *
  refine SX.VC_dn (fun v N=>∃ A3 n3 c3,v=.slice A3 n3 c3∧N=[⟨.slice A3 n3 c3,1,Y.flatMap c8⟩]) (fun _=>rfl) (fun α A3 n3 c3 _ _ _=>⟨A3,n3,c3,rfl,Eq.trans (b:=[⟨.slice A3 n3 c3,1,[Value.agg ([Value.agg (Y.flatMap c8).toArray].flatMap SX.cellsV).toArray].flatMap SX.cellsV⟩]) (by kernel_rfl) (by simp [SX.cellsV])⟩) ?_
  have hKm:∀ (A3:Option Addr) (n3 c3:Nat),((((cxM4 (KW w) (fun _ _ _=>False)).plus ([⟨.slice A2 n2 c2,1,X.flatMap c8⟩]++(cxM4 (KW w) (fun _ _ _=>False)).N)).plus N).plus ([⟨.slice A3 n3 c3,1,Y.flatMap c8⟩]++(((cxM4 (KW w) (fun _ _ _=>False)).plus ([⟨.slice A2 n2 c2,1,X.flatMap c8⟩]++(cxM4 (KW w) (fun _ _ _=>False)).N)).plus N).N)).K (.slice A3 n3 c3) 1 (Y.flatMap c8):=fun A3 n3 c3=>SX.K_mem (List.mem_append_left _ (List.mem_singleton.2 rfl))
  rintro _ _-⟨A3,n3,c3,rfl,rfl⟩
  refine SX.E (.agg ([((A3,n3,c3):Hd3)].flatMap cellsH3).toArray) (fun α=>SX.app_rel (f:=cellsH3) (l1:=T) (l2:=[((A3,n3,c3):Hd3)]) (fun _=>rfl) cellsH3_one (by decide) (SX.cat1 (j:=16) (by kernel_rfl)) (SX.src_own (by kernel_rfl)) (by simp;omega) (by simp;omega)) ?_
  refine SX.E (dgV (dgH Y)) (fun α=>⟨[⟨.slice A3 n3 c3,1,Y.flatMap c8⟩],⟨by kernel_rfl,rfl,cast (by kernel_rfl) (hKm A3 n3 c3),trivial⟩,.inl (sumR_mk (L_pl hL2) (by omega)),SX.noAli rfl⟩) ?_
  generalize dgH Y=DY at *
  refine SX.E (.agg ([DY].flatMap cellsDg).toArray) (fun α=>SX.app_rel (f:=cellsDg) (l1:=acc++[d]) (l2:=[DY]) (fun _=>rfl) cellsDg_one (by decide) (SX.cat1 (j:=15) (by kernel_rfl)) ⟨⟨.slice (some ⟨(α 39).b,0,none⟩) 1 1,32,[DY].flatMap cellsDg⟩,⟨by kernel_rfl,trivial⟩,rfl,rfl⟩ (by simp;omega) (by simp;omega)) ?_
  refine SX.E (SX.subS B1 32 1 m1 c1) (fun α=>SX.slc_lo (A:=B1) (n:=m1) (c:=c1) (k:=1) (by kernel_rfl) (by kernel_rfl) hm0) ?_
  refine SX.E (.int .i64 ((n1+1:Nat):Int)) (fun α=>cast (by kernel_rfl) (i_add' (a:=n1) (b:=1) (d:=n1+1) rfl (by omega))) ?_
  refine SX.E (.int .i64 (((n1+1) / 2:Nat):Int)) (fun α=>cast (by kernel_rfl) (i_quo2 (a:=n1+1) (by omega))) ?_
  refine SX.E (.int .i64 ((i1 / 2:Nat):Int)) (fun α=>cast (by kernel_rfl) (i_quo2 (a:=i1) (by omega))) ?_
  exact SX.VC_again fun α=>⟨rfl,[],(fun y hy=>nomatch hy),⟨(n1+1) / 2,i1 / 2,_,m1-1,c1-1,q,acc++[d],DY,T++[(A3,n3,c3)],Eq.trans (b:=[.int .i64 (((n1+1) / 2:Nat):Int),.int .i64 ((i1 / 2:Nat):Int),SX.subS B1 32 1 m1 c1,.agg ([Value.agg (dgs (acc++[d])).toArray,.agg ([DY].flatMap cellsDg).toArray].flatMap SX.cellsV).toArray,.agg ([Value.agg (T.flatMap cellsH3).toArray,.agg ([(A3,n3,c3)].flatMap cellsH3).toArray].flatMap SX.cellsV).toArray]) (by kernel_rfl) (by simp [SX.cellsV,dgs,SX.subS]),by omega,by omega,hr1.cut hm0 hc1,by omega,by omega,by simp;omega,by simp [hT],hE⟩,cast (by kernel_rfl) (show(((n1+1) / 2:Nat):Int).toNat<(n1:Int).toNat by omega)⟩
 have h1:¬ 1<n1:=by simpa using h1
 refine SX.D (.int .i64 (m1:Int)) ?_
 refine SX.E (.bool (decide (m1=0))) (fun α=>cast (by kernel_rfl) (i_eql0 m1)) ?_
 refine SX.D (.bool (!decide (m1=0))) ?_
 refine SX.B (!decide (m1=0)) (fun hm0=>?_) (fun hm0=>?_)
 ·have hm0:¬ m1=0:=by simpa using hm0
  have hE:climbE n i D p=none:=by rw [← hI,climb_one (by omega),if_neg (by rintro rfl;simp at hm1;omega)]
  rw [hE]
  exact SX.F (.tuple #[dgV (fun _=>0),.int .i64 70]) rfl
 have hm0:m1=0:=by simpa using hm0
 have hE:climbE n i D p=some d:=by rw [← hI,climb_one (by omega),if_pos (List.eq_nil_of_length_eq_zero (by omega))]
 rw [hE]
 have hlast:(acc++[d])[acc.length]?=some d:=by simp
 refine SX.E (.int .i64 (((acc++[d]).length:Nat):Int)) (fun α=>SX.rlenD (f:=cellsDg) (l:=acc++[d]) (fun _=>rfl) (by decide) (SX.cat1 (j:=15) (by kernel_rfl))) ?_
 refine SX.E (.int .i64 ((acc.length:Nat):Int)) (fun α=>cast (by kernel_rfl) (i_sub' (a:=(acc++[d]).length) (b:=1) (d:=acc.length) (by simp) (by simp;omega))) ?_
 refine SX.E (.bool true) (fun α=>SX.row_bnd (f:=cellsDg) (l:=acc++[d]) (k:=acc.length) (fun _=>rfl) (by decide) (SX.cat1 (j:=15) (by kernel_rfl)) (by kernel_rfl) (by simp)) ?_
 refine SX.E (dgV d) (fun α=>SX.relemsD (k:=acc.length) (f:=cellsDg) (l:=acc++[d]) (fun _=>rfl) (by decide) (SX.cat1 (j:=15) (by kernel_rfl)) (by kernel_rfl) hlast) ?_
 exact SX.F (.tuple #[dgV d,.int .i64 0]) rfl
noncomputable def cxL0(K A:Value→Nat→List Value→Prop):SX.Cx:={ P:=Tryd.prog,R:=fun _ _ _ _=>False,shp:=fun _=>none,K:=K,A:=A,trm:=true }
theorem cxL0_ok(K A:Value→Nat→List Value→Prop):(cxL0 K A).Ok:=SX.Cx.ok_of (fun _=>rfl) fun _ f xs v W h=>h.elim
def capOk(k l n:Int):Prop:=(k=1∧0≤l∧l≤2∧1≤n∧n≤3)∨(k=2∧0≤l∧l≤2∧1≤n∧n≤1048576)∨(k=3∧l=0∧1≤n∧n≤16)∨(k=4∧l=0∧0≤n∧n≤16)∨(k=5∧l=0∧0≤n∧n≤500)∨(k=6∧l=0∧0≤n∧n≤1048576)
instance (k l n:Int):Decidable (capOk k l n):=by unfold capOk;infer_instance
structure Lim where
 (no person of_ from_ to_ known kind limb n:Int)
 deriving DecidableEq,Inhabited
def cellsLm(s:Lim):List Value:=[.int .i64 s.no,.int .i64 s.person,.int .i64 s.of_,.int .i64 s.from_,.int .i64 s.to_,.int .i64 s.known,.int .i64 s.kind,.int .i64 s.limb,.int .i64 s.n]
def valLm(s:Lim):Value:=.agg (cellsLm s).toArray
theorem cellsLm_inj(a b:Lim)(h:cellsLm a=cellsLm b):a=b:=by
 cases a;cases b
 simpa [cellsLm]using h
theorem cellsLm_one(a:Lim):∀ u∈cellsLm a,u.oneCell'=true:=by
 intro u hu
 simp only [cellsLm,List.mem_cons,List.not_mem_nil,or_false]at hu
 rcases hu with rfl|rfl|rfl|rfl|rfl|rfl|rfl|rfl|rfl<;>rfl
def lmL(l:List Lim):List Value:=l.flatMap cellsLm
theorem lmL_len(l:List Lim):(lmL l).length=l.length*9:=SX.flat_len (f:=cellsLm) (fun _=>rfl) l
def tree_cvalid:SX.Tree :=
(.df (.bin .lss 3) [(.q 0),(.i 1)] .one
(.br 3 []
(.ret (.k (.bool false)) [] [])
(.df (.bin .gtr 3) [(.q 0),(.i 6)] .one
(.br 4 []
(.ret (.k (.bool false)) [] [])
(.sp 0 [] [
(.df (.bin .lss 3) [(.q 1),(.i 0)] .one
(.br 5 []
(.ret (.k (.bool false)) [] [])
(.df (.bin .gtr 3) [(.q 1),(.i 0)] .one
(.br 6 []
(.ret (.k (.bool false)) [] [])
(.df (.bin .lss 3) [(.q 2),(.i 0)] .one
(.br 7 []
(.ret (.k (.bool false)) [] [])
(.df (.bin .gtr 3) [(.q 2),(.i 0)] .one
(.br 8 []
(.ret (.k (.bool false)) [] [])
(.ret (.k (.bool true)) [] []))))))))),
(.df (.bin .lss 3) [(.q 1),(.i 0)] .one
(.br 5 []
(.ret (.k (.bool false)) [] [])
(.df (.bin .gtr 3) [(.q 1),(.i 2)] .one
(.br 6 []
(.ret (.k (.bool false)) [] [])
(.df (.bin .lss 3) [(.q 2),(.i 1)] .one
(.br 7 []
(.ret (.k (.bool false)) [] [])
(.df (.bin .gtr 3) [(.q 2),(.i 3)] .one
(.br 8 []
(.ret (.k (.bool false)) [] [])
(.ret (.k (.bool true)) [] []))))))))),
(.df (.bin .lss 3) [(.q 1),(.i 0)] .one
(.br 5 []
(.ret (.k (.bool false)) [] [])
(.df (.bin .gtr 3) [(.q 1),(.i 2)] .one
(.br 6 []
(.ret (.k (.bool false)) [] [])
(.df (.bin .lss 3) [(.q 2),(.i 1)] .one
(.br 7 []
(.ret (.k (.bool false)) [] [])
(.df (.bin .gtr 3) [(.q 2),(.i 1048576)] .one
(.br 8 []
(.ret (.k (.bool false)) [] [])
(.ret (.k (.bool true)) [] []))))))))),
(.df (.bin .lss 3) [(.q 1),(.i 0)] .one
(.br 5 []
(.ret (.k (.bool false)) [] [])
(.df (.bin .gtr 3) [(.q 1),(.i 0)] .one
(.br 6 []
(.ret (.k (.bool false)) [] [])
(.df (.bin .lss 3) [(.q 2),(.i 1)] .one
(.br 7 []
(.ret (.k (.bool false)) [] [])
(.df (.bin .gtr 3) [(.q 2),(.i 16)] .one
(.br 8 []
(.ret (.k (.bool false)) [] [])
(.ret (.k (.bool true)) [] []))))))))),
(.df (.bin .lss 3) [(.q 1),(.i 0)] .one
(.br 5 []
(.ret (.k (.bool false)) [] [])
(.df (.bin .gtr 3) [(.q 1),(.i 0)] .one
(.br 6 []
(.ret (.k (.bool false)) [] [])
(.df (.bin .lss 3) [(.q 2),(.i 0)] .one
(.br 7 []
(.ret (.k (.bool false)) [] [])
(.df (.bin .gtr 3) [(.q 2),(.i 16)] .one
(.br 8 []
(.ret (.k (.bool false)) [] [])
(.ret (.k (.bool true)) [] []))))))))),
(.df (.bin .lss 3) [(.q 1),(.i 0)] .one
(.br 5 []
(.ret (.k (.bool false)) [] [])
(.df (.bin .gtr 3) [(.q 1),(.i 0)] .one
(.br 6 []
(.ret (.k (.bool false)) [] [])
(.df (.bin .lss 3) [(.q 2),(.i 0)] .one
(.br 7 []
(.ret (.k (.bool false)) [] [])
(.df (.bin .gtr 3) [(.q 2),(.i 500)] .one
(.br 8 []
(.ret (.k (.bool false)) [] [])
(.ret (.k (.bool true)) [] []))))))))),
(.df (.bin .lss 3) [(.q 1),(.i 0)] .one
(.br 5 []
(.ret (.k (.bool false)) [] [])
(.df (.bin .gtr 3) [(.q 1),(.i 0)] .one
(.br 6 []
(.ret (.k (.bool false)) [] [])
(.df (.bin .lss 3) [(.q 2),(.i 0)] .one
(.br 7 []
(.ret (.k (.bool false)) [] [])
(.df (.bin .gtr 3) [(.q 2),(.i 1048576)] .one
(.br 8 []
(.ret (.k (.bool false)) [] [])
(.ret (.k (.bool true)) [] [])))))))))])))))
def args_cvalid:List SX.V:=[.a [.x 0 [],.x 1 [],.x 2 []]]
set_option maxRecDepth 100000 in
theorem run_cvalid(K A:Value→Nat→List Value→Prop):(SX.run (cxL0 K A) ⟨fun _=>true,[],0,100⟩ 100000 0 (SX.door 33 Tryd.f33 args_cvalid [.one,.one,.one]) [.code (Tryd.f33.body.getD .skip),.top Tryd.f33]).strip=tree_cvalid:=by kernel_rfl
set_option maxRecDepth 100000 in
set_option maxHeartbeats 4000000 in
theorem cvalid_any(k l n:Int)(w:World)  : Calls Tryd.prog 33 #[.agg #[.int .i64 k,.int .i64 l,.int .i64 n]] w fun e w'=>e=.returned (.bool (decide (capOk k l n)))∧Below w.heap.size w w':=by
 refine SX.calls_of_run (C:=cxL0 (fun _ _ _=>False) (fun _ _ _=>False)) (G:=⟨fun _=>true,[],0,100⟩) (args:=args_cvalid) (sh:=[.one,.one,.one]) (ρ:=[.int .i64 k,.int .i64 l,.int .i64 n]) 100000 tree_cvalid (cxL0_ok _ _) Tryd.func33 rfl (run_cvalid _ _) (by kernel_rfl) (by kernel_rfl) (by kernel_rfl) ?_ ?_
 ·exact fun W _=>SX.Kf_none (fun _ _ _ h=>h) W
 unfold tree_cvalid
 refine SX.D (.bool (decide (k<1))) ?_
 refine SX.B (decide (k<1)) (fun h3=>?_) (fun h3=>?_)
 ·try simp only [NRM]at h3
  exact SX.F (.bool false) (by congr 1;rw [Bool.eq_iff_iff];simp only [decide_eq_true_eq,Bool.false_eq_true,true_iff,false_iff,iff_true,iff_false];unfold capOk;omega)
 try simp only [NRM]at h3
 refine SX.D (.bool (decide (k>6))) ?_
 refine SX.B (decide (k>6)) (fun h4=>?_) (fun h4=>?_)
 ·try simp only [NRM]at h4
  exact SX.F (.bool false) (by congr 1;rw [Bool.eq_iff_iff];simp only [decide_eq_true_eq,Bool.false_eq_true,true_iff,false_iff,iff_true,iff_false];unfold capOk;omega)
 try simp only [NRM]at h4
 obtain⟨j,rfl⟩:∃ j:Nat,k=j:=⟨k.toNat,by omega⟩
 refine SX.VC_sp j (by show j<7;omega) (by kernel_rfl) fun t ht=>?_
 have hk:j=1∨j=2∨j=3∨j=4∨j=5∨j=6:=by omega
 rcases hk with rfl|rfl|rfl|rfl|rfl|rfl
 ·cases (Option.some.inj ht)
  refine SX.D (.bool (decide (l<0))) ?_
  refine SX.B (decide (l<0)) (fun h5=>?_) (fun h5=>?_)
  ·try simp only [NRM]at h5
   exact SX.F (.bool false) (by congr 1;rw [Bool.eq_iff_iff];simp only [decide_eq_true_eq,Bool.false_eq_true,true_iff,false_iff,iff_true,iff_false];unfold capOk;omega)
  try simp only [NRM]at h5
  refine SX.D (.bool (decide (l>2))) ?_
  refine SX.B (decide (l>2)) (fun h6=>?_) (fun h6=>?_)
  ·try simp only [NRM]at h6
   exact SX.F (.bool false) (by congr 1;rw [Bool.eq_iff_iff];simp only [decide_eq_true_eq,Bool.false_eq_true,true_iff,false_iff,iff_true,iff_false];unfold capOk;omega)
  try simp only [NRM]at h6
  refine SX.D (.bool (decide (n<1))) ?_
  refine SX.B (decide (n<1)) (fun h7=>?_) (fun h7=>?_)
  ·try simp only [NRM]at h7
   exact SX.F (.bool false) (by congr 1;rw [Bool.eq_iff_iff];simp only [decide_eq_true_eq,Bool.false_eq_true,true_iff,false_iff,iff_true,iff_false];unfold capOk;omega)
  try simp only [NRM]at h7
  refine SX.D (.bool (decide (n>3))) ?_
  refine SX.B (decide (n>3)) (fun h8=>?_) (fun h8=>?_)
  ·try simp only [NRM]at h8
   exact SX.F (.bool false) (by congr 1;rw [Bool.eq_iff_iff];simp only [decide_eq_true_eq,Bool.false_eq_true,true_iff,false_iff,iff_true,iff_false];unfold capOk;omega)
  try simp only [NRM]at h8
  exact SX.F (.bool true) (by congr 1;rw [Bool.eq_iff_iff];simp only [decide_eq_true_eq,Bool.false_eq_true,true_iff,false_iff,iff_true,iff_false];unfold capOk;omega)
 ·cases (Option.some.inj ht)
  refine SX.D (.bool (decide (l<0))) ?_
  refine SX.B (decide (l<0)) (fun h5=>?_) (fun h5=>?_)
  ·try simp only [NRM]at h5
   exact SX.F (.bool false) (by congr 1;rw [Bool.eq_iff_iff];simp only [decide_eq_true_eq,Bool.false_eq_true,true_iff,false_iff,iff_true,iff_false];unfold capOk;omega)
  try simp only [NRM]at h5
  refine SX.D (.bool (decide (l>2))) ?_
  refine SX.B (decide (l>2)) (fun h6=>?_) (fun h6=>?_)
  ·try simp only [NRM]at h6
   exact SX.F (.bool false) (by congr 1;rw [Bool.eq_iff_iff];simp only [decide_eq_true_eq,Bool.false_eq_true,true_iff,false_iff,iff_true,iff_false];unfold capOk;omega)
  try simp only [NRM]at h6
  refine SX.D (.bool (decide (n<1))) ?_
  refine SX.B (decide (n<1)) (fun h7=>?_) (fun h7=>?_)
  ·try simp only [NRM]at h7
   exact SX.F (.bool false) (by congr 1;rw [Bool.eq_iff_iff];simp only [decide_eq_true_eq,Bool.false_eq_true,true_iff,false_iff,iff_true,iff_false];unfold capOk;omega)
  try simp only [NRM]at h7
  refine SX.D (.bool (decide (n>1048576))) ?_
  refine SX.B (decide (n>1048576)) (fun h8=>?_) (fun h8=>?_)
  ·try simp only [NRM]at h8
   exact SX.F (.bool false) (by congr 1;rw [Bool.eq_iff_iff];simp only [decide_eq_true_eq,Bool.false_eq_true,true_iff,false_iff,iff_true,iff_false];unfold capOk;omega)
  try simp only [NRM]at h8
  exact SX.F (.bool true) (by congr 1;rw [Bool.eq_iff_iff];simp only [decide_eq_true_eq,Bool.false_eq_true,true_iff,false_iff,iff_true,iff_false];unfold capOk;omega)
 ·cases (Option.some.inj ht)
  refine SX.D (.bool (decide (l<0))) ?_
  refine SX.B (decide (l<0)) (fun h5=>?_) (fun h5=>?_)
  ·try simp only [NRM]at h5
   exact SX.F (.bool false) (by congr 1;rw [Bool.eq_iff_iff];simp only [decide_eq_true_eq,Bool.false_eq_true,true_iff,false_iff,iff_true,iff_false];unfold capOk;omega)
  try simp only [NRM]at h5
  refine SX.D (.bool (decide (l>0))) ?_
  refine SX.B (decide (l>0)) (fun h6=>?_) (fun h6=>?_)
  ·try simp only [NRM]at h6
   exact SX.F (.bool false) (by congr 1;rw [Bool.eq_iff_iff];simp only [decide_eq_true_eq,Bool.false_eq_true,true_iff,false_iff,iff_true,iff_false];unfold capOk;omega)
  try simp only [NRM]at h6
  refine SX.D (.bool (decide (n<1))) ?_
  refine SX.B (decide (n<1)) (fun h7=>?_) (fun h7=>?_)
  ·try simp only [NRM]at h7
   exact SX.F (.bool false) (by congr 1;rw [Bool.eq_iff_iff];simp only [decide_eq_true_eq,Bool.false_eq_true,true_iff,false_iff,iff_true,iff_false];unfold capOk;omega)
  try simp only [NRM]at h7
  refine SX.D (.bool (decide (n>16))) ?_
  refine SX.B (decide (n>16)) (fun h8=>?_) (fun h8=>?_)
  ·try simp only [NRM]at h8
   exact SX.F (.bool false) (by congr 1;rw [Bool.eq_iff_iff];simp only [decide_eq_true_eq,Bool.false_eq_true,true_iff,false_iff,iff_true,iff_false];unfold capOk;omega)
  try simp only [NRM]at h8
  exact SX.F (.bool true) (by congr 1;rw [Bool.eq_iff_iff];simp only [decide_eq_true_eq,Bool.false_eq_true,true_iff,false_iff,iff_true,iff_false];unfold capOk;omega)
 ·cases (Option.some.inj ht)
  refine SX.D (.bool (decide (l<0))) ?_
  refine SX.B (decide (l<0)) (fun h5=>?_) (fun h5=>?_)
  ·try simp only [NRM]at h5
   exact SX.F (.bool false) (by congr 1;rw [Bool.eq_iff_iff];simp only [decide_eq_true_eq,Bool.false_eq_true,true_iff,false_iff,iff_true,iff_false];unfold capOk;omega)
  try simp only [NRM]at h5
  refine SX.D (.bool (decide (l>0))) ?_
  refine SX.B (decide (l>0)) (fun h6=>?_) (fun h6=>?_)
  ·try simp only [NRM]at h6
   exact SX.F (.bool false) (by congr 1;rw [Bool.eq_iff_iff];simp only [decide_eq_true_eq,Bool.false_eq_true,true_iff,false_iff,iff_true,iff_false];unfold capOk;omega)
  try simp only [NRM]at h6
  refine SX.D (.bool (decide (n<0))) ?_
  refine SX.B (decide (n<0)) (fun h7=>?_) (fun h7=>?_)
  ·try simp only [NRM]at h7
   exact SX.F (.bool false) (by congr 1;rw [Bool.eq_iff_iff];simp only [decide_eq_true_eq,Bool.false_eq_true,true_iff,false_iff,iff_true,iff_false];unfold capOk;omega)
  try simp only [NRM]at h7
  refine SX.D (.bool (decide (n>16))) ?_
  refine SX.B (decide (n>16)) (fun h8=>?_) (fun h8=>?_)
  ·try simp only [NRM]at h8
   exact SX.F (.bool false) (by congr 1;rw [Bool.eq_iff_iff];simp only [decide_eq_true_eq,Bool.false_eq_true,true_iff,false_iff,iff_true,iff_false];unfold capOk;omega)
  try simp only [NRM]at h8
  exact SX.F (.bool true) (by congr 1;rw [Bool.eq_iff_iff];simp only [decide_eq_true_eq,Bool.false_eq_true,true_iff,false_iff,iff_true,iff_false];unfold capOk;omega)
 ·cases (Option.some.inj ht)
  refine SX.D (.bool (decide (l<0))) ?_
  refine SX.B (decide (l<0)) (fun h5=>?_) (fun h5=>?_)
  ·try simp only [NRM]at h5
   exact SX.F (.bool false) (by congr 1;rw [Bool.eq_iff_iff];simp only [decide_eq_true_eq,Bool.false_eq_true,true_iff,false_iff,iff_true,iff_false];unfold capOk;omega)
  try simp only [NRM]at h5
  refine SX.D (.bool (decide (l>0))) ?_
  refine SX.B (decide (l>0)) (fun h6=>?_) (fun h6=>?_)
  ·try simp only [NRM]at h6
   exact SX.F (.bool false) (by congr 1;rw [Bool.eq_iff_iff];simp only [decide_eq_true_eq,Bool.false_eq_true,true_iff,false_iff,iff_true,iff_false];unfold capOk;omega)
  try simp only [NRM]at h6
  refine SX.D (.bool (decide (n<0))) ?_
  refine SX.B (decide (n<0)) (fun h7=>?_) (fun h7=>?_)
  ·try simp only [NRM]at h7
   exact SX.F (.bool false) (by congr 1;rw [Bool.eq_iff_iff];simp only [decide_eq_true_eq,Bool.false_eq_true,true_iff,false_iff,iff_true,iff_false];unfold capOk;omega)
  try simp only [NRM]at h7
  refine SX.D (.bool (decide (n>500))) ?_
  refine SX.B (decide (n>500)) (fun h8=>?_) (fun h8=>?_)
  ·try simp only [NRM]at h8
   exact SX.F (.bool false) (by congr 1;rw [Bool.eq_iff_iff];simp only [decide_eq_true_eq,Bool.false_eq_true,true_iff,false_iff,iff_true,iff_false];unfold capOk;omega)
  try simp only [NRM]at h8
  exact SX.F (.bool true) (by congr 1;rw [Bool.eq_iff_iff];simp only [decide_eq_true_eq,Bool.false_eq_true,true_iff,false_iff,iff_true,iff_false];unfold capOk;omega)
 cases (Option.some.inj ht)
 refine SX.D (.bool (decide (l<0))) ?_
 refine SX.B (decide (l<0)) (fun h5=>?_) (fun h5=>?_)
 ·try simp only [NRM]at h5
  exact SX.F (.bool false) (by congr 1;rw [Bool.eq_iff_iff];simp only [decide_eq_true_eq,Bool.false_eq_true,true_iff,false_iff,iff_true,iff_false];unfold capOk;omega)
 try simp only [NRM]at h5
 refine SX.D (.bool (decide (l>0))) ?_
 refine SX.B (decide (l>0)) (fun h6=>?_) (fun h6=>?_)
 ·try simp only [NRM]at h6
  exact SX.F (.bool false) (by congr 1;rw [Bool.eq_iff_iff];simp only [decide_eq_true_eq,Bool.false_eq_true,true_iff,false_iff,iff_true,iff_false];unfold capOk;omega)
 try simp only [NRM]at h6
 refine SX.D (.bool (decide (n<0))) ?_
 refine SX.B (decide (n<0)) (fun h7=>?_) (fun h7=>?_)
 ·try simp only [NRM]at h7
  exact SX.F (.bool false) (by congr 1;rw [Bool.eq_iff_iff];simp only [decide_eq_true_eq,Bool.false_eq_true,true_iff,false_iff,iff_true,iff_false];unfold capOk;omega)
 try simp only [NRM]at h7
 refine SX.D (.bool (decide (n>1048576))) ?_
 refine SX.B (decide (n>1048576)) (fun h8=>?_) (fun h8=>?_)
 ·try simp only [NRM]at h8
  exact SX.F (.bool false) (by congr 1;rw [Bool.eq_iff_iff];simp only [decide_eq_true_eq,Bool.false_eq_true,true_iff,false_iff,iff_true,iff_false];unfold capOk;omega)
 try simp only [NRM]at h8
 exact SX.F (.bool true) (by congr 1;rw [Bool.eq_iff_iff];simp only [decide_eq_true_eq,Bool.false_eq_true,true_iff,false_iff,iff_true,iff_false];unfold capOk;omega)
def bt(l:List W8):ByteArray:=⟨(l.map UInt8.ofBitVec).toArray⟩
theorem b2s_row{C:SX.Cx}{ρ:List Value}{α:Nat→SX.AV}{c:SX.V}{l:List W8}(h:SX.cellsV (c.den ρ α)=l.flatMap c8):SX.Opq.rel C ρ α .b2s [c] (.string (bt l)):=by
 refine⟨l.map UInt8.ofBitVec,?_,rfl⟩
 rw [h,List.map_map]
 clear h
 induction l with
 | nil=>rfl
 | cons a l ih=>rw [List.flatMap_cons,ih];rfl
def limitT:ByteArray:=⟨#[108,105,109,105,116]⟩
def limitsT:ByteArray:=⟨#[108,105,109,105,116,115]⟩
def leafF(at_:Int)(x:Lim)(salt:Int):List Fl:=[.s limitT,.n at_,.n x.no,.n x.person,.n x.of_,.n x.from_,.n x.to_,.n x.known,.n x.kind,.n x.limb,.n x.n,.n salt]
def signF(person count:Int)(root:Dg):List Fl:=[.s limitsT,.n person,.n count,.s (bt (dgL root))]
def tree_eleaf:SX.Tree :=
(.df (.apo 4 56 (.own 4 [(.i 1),(.q 0),(.k (.string ⟨#[]⟩)),(.k (.slice none 0 0))])) [(.a [(.i 2),(.i 0),(.k (.string ⟨#[108,105,109,105,116]⟩)),(.k (.slice none 0 0))]),(.sl 5 0 1 1)] .any
(.df (.app 4 56 (.own 4 [(.i 1),(.x 1 [0]),(.k (.string ⟨#[]⟩)),(.k (.slice none 0 0))])) [(.cat [(.q 3)]),(.sl 7 0 1 1)] .any
(.df (.app 4 56 (.own 4 [(.i 1),(.x 1 [1]),(.k (.string ⟨#[]⟩)),(.k (.slice none 0 0))])) [(.cat [(.q 3),(.q 4)]),(.sl 9 0 1 1)] .any
(.df (.app 4 56 (.own 4 [(.i 1),(.x 1 [2]),(.k (.string ⟨#[]⟩)),(.k (.slice none 0 0))])) [(.cat [(.q 3),(.q 4),(.q 5)]),(.sl 11 0 1 1)] .any
(.df (.app 4 56 (.own 4 [(.i 1),(.x 1 [3]),(.k (.string ⟨#[]⟩)),(.k (.slice none 0 0))])) [(.cat (SX.Z 3 4)),(.sl 13 0 1 1)] .any
(.df (.app 4 56 (.own 4 [(.i 1),(.x 1 [4]),(.k (.string ⟨#[]⟩)),(.k (.slice none 0 0))])) [(.cat (SX.Z 3 5)),(.sl 15 0 1 1)] .any
(.df (.app 4 56 (.own 4 [(.i 1),(.x 1 [5]),(.k (.string ⟨#[]⟩)),(.k (.slice none 0 0))])) [(.cat (SX.Z 3 6)),(.sl 17 0 1 1)] .any
(.df (.app 4 56 (.own 4 [(.i 1),(.x 1 [6]),(.k (.string ⟨#[]⟩)),(.k (.slice none 0 0))])) [(.cat (SX.Z 3 7)),(.sl 19 0 1 1)] .any
(.df (.app 4 56 (.own 4 [(.i 1),(.x 1 [7]),(.k (.string ⟨#[]⟩)),(.k (.slice none 0 0))])) [(.cat (SX.Z 3 8)),(.sl 21 0 1 1)] .any
(.df (.app 4 56 (.own 4 [(.i 1),(.x 1 [8]),(.k (.string ⟨#[]⟩)),(.k (.slice none 0 0))])) [(.cat (SX.Z 3 9)),(.sl 23 0 1 1)] .any
(.df (.app 4 56 (.own 4 [(.i 1),(.q 2),(.k (.string ⟨#[]⟩)),(.k (.slice none 0 0))])) [(.cat (SX.Z 3 10)),(.sl 25 0 1 1)] .any
(.df (.callg 61 [.no] [(.row 4 (SX.Z 3 11))]) [(.a [(.i 3),(.i 0),(.k (.string ⟨#[]⟩)),(.row 26)]),(.row 26)] (.tp [(.sl 1),.one])
(.ret (.row 28) (List.replicate 28 none++[(some ⟨[(.x 14 [0])],0,(.ext 1)⟩)]) [])))))))))))))
def args_eleaf:List SX.V:=[.x 0 [],.a ((List.range 9).map fun j=>.x 1 [j]),.x 2 []]
set_option maxRecDepth 100000 in
theorem run_eleaf(K A:Value→Nat→List Value→Prop):(SX.run (cxS1 K A) ⟨fun f=>true,[],2,100⟩ 100000 0 (SX.door 36 Tryd.f36 args_eleaf [.one,.ag 9,.one]) [.code (Tryd.f36.body.getD .skip),.top Tryd.f36]).strip=tree_eleaf:=by kernel_rfl
set_option maxRecDepth 100000 in
set_option maxHeartbeats 4000000 in
theorem leaf_any(at_ salt:Int)(x:Lim)(w:World)(hf:∀ z∈leafF at_ x salt,z.fits):Calls Tryd.prog 36 #[.int .i64 at_,valLm x,.int .i64 salt] w fun e w'=>Below w.heap.size w w'∧∃ hdr,e=.returned hdr∧SX.SlRet w w' [] hdr 1 ((encL (leafF at_ x salt)).flatMap c8):=by
 refine SX.calls_of_run (C:=cxS1 (fun _ _ _=>False) (fun _ _ _=>False)) (G:=⟨fun f=>true,[],2,100⟩) (args:=args_eleaf) (sh:=[.one,.ag 9,.one]) (ρ:=[.int .i64 at_,valLm x,.int .i64 salt]) 100000 tree_eleaf (okS1 _ _) Tryd.func36 rfl (run_eleaf _ _) (by kernel_rfl) (by kernel_rfl) (by kernel_rfl) ?_ ?_
 ·exact fun W hW v z xs h=>h.elim
 unfold tree_eleaf
 refine SX.E (.agg (([Fl.s limitT]++[Fl.n at_]).flatMap cellsFl).toArray) (fun α=>SX.apo_rel (f:=cellsFl) (l1:=[Fl.s limitT]) (l2:=[Fl.n at_]) cellsFl_len cellsFl_one (by decide) (by kernel_rfl) (SX.src_own (by kernel_rfl)) (by simp) (by simp) (by simp)) ?_
 refine SX.E (.agg (([Fl.n x.no]:List Fl).flatMap cellsFl).toArray) (fun α=>SX.app_rel (f:=cellsFl) (l1:=[.s limitT,.n at_]) (l2:=[Fl.n x.no]) cellsFl_len cellsFl_one (by decide) (by kernel_rfl) (SX.src_own (by kernel_rfl)) (by simp) (by simp)) ?_
 refine SX.E (.agg (([Fl.n x.person]:List Fl).flatMap cellsFl).toArray) (fun α=>SX.app_rel (f:=cellsFl) (l1:=[.s limitT,.n at_,.n x.no]) (l2:=[Fl.n x.person]) cellsFl_len cellsFl_one (by decide) (by kernel_rfl) (SX.src_own (by kernel_rfl)) (by simp) (by simp)) ?_
 refine SX.E (.agg (([Fl.n x.of_]:List Fl).flatMap cellsFl).toArray) (fun α=>SX.app_rel (f:=cellsFl) (l1:=[.s limitT,.n at_,.n x.no,.n x.person]) (l2:=[Fl.n x.of_]) cellsFl_len cellsFl_one (by decide) (by kernel_rfl) (SX.src_own (by kernel_rfl)) (by simp) (by simp)) ?_
 refine SX.E (.agg (([Fl.n x.from_]:List Fl).flatMap cellsFl).toArray) (fun α=>SX.app_rel (f:=cellsFl) (l1:=[.s limitT,.n at_,.n x.no,.n x.person,.n x.of_]) (l2:=[Fl.n x.from_]) cellsFl_len cellsFl_one (by decide) (by kernel_rfl) (SX.src_own (by kernel_rfl)) (by simp) (by simp)) ?_
 refine SX.E (.agg (([Fl.n x.to_]:List Fl).flatMap cellsFl).toArray) (fun α=>SX.app_rel (f:=cellsFl) (l1:=[.s limitT,.n at_,.n x.no,.n x.person,.n x.of_,.n x.from_]) (l2:=[Fl.n x.to_]) cellsFl_len cellsFl_one (by decide) (by kernel_rfl) (SX.src_own (by kernel_rfl)) (by simp) (by simp)) ?_
 refine SX.E (.agg (([Fl.n x.known]:List Fl).flatMap cellsFl).toArray) (fun α=>SX.app_rel (f:=cellsFl) (l1:=[.s limitT,.n at_,.n x.no,.n x.person,.n x.of_,.n x.from_,.n x.to_]) (l2:=[Fl.n x.known]) cellsFl_len cellsFl_one (by decide) (by kernel_rfl) (SX.src_own (by kernel_rfl)) (by simp) (by simp)) ?_
 refine SX.E (.agg (([Fl.n x.kind]:List Fl).flatMap cellsFl).toArray) (fun α=>SX.app_rel (f:=cellsFl) (l1:=[.s limitT,.n at_,.n x.no,.n x.person,.n x.of_,.n x.from_,.n x.to_,.n x.known]) (l2:=[Fl.n x.kind]) cellsFl_len cellsFl_one (by decide) (by kernel_rfl) (SX.src_own (by kernel_rfl)) (by simp) (by simp)) ?_
 refine SX.E (.agg (([Fl.n x.limb]:List Fl).flatMap cellsFl).toArray) (fun α=>SX.app_rel (f:=cellsFl) (l1:=[.s limitT,.n at_,.n x.no,.n x.person,.n x.of_,.n x.from_,.n x.to_,.n x.known,.n x.kind]) (l2:=[Fl.n x.limb]) cellsFl_len cellsFl_one (by decide) (by kernel_rfl) (SX.src_own (by kernel_rfl)) (by simp) (by simp)) ?_
 refine SX.E (.agg (([Fl.n x.n]:List Fl).flatMap cellsFl).toArray) (fun α=>SX.app_rel (f:=cellsFl) (l1:=[.s limitT,.n at_,.n x.no,.n x.person,.n x.of_,.n x.from_,.n x.to_,.n x.known,.n x.kind,.n x.limb]) (l2:=[Fl.n x.n]) cellsFl_len cellsFl_one (by decide) (by kernel_rfl) (SX.src_own (by kernel_rfl)) (by simp) (by simp)) ?_
 refine SX.E (.agg (([Fl.n salt]:List Fl).flatMap cellsFl).toArray) (fun α=>SX.app_rel (f:=cellsFl) (l1:=[.s limitT,.n at_,.n x.no,.n x.person,.n x.of_,.n x.from_,.n x.to_,.n x.known,.n x.kind,.n x.limb,.n x.n]) (l2:=[Fl.n salt]) cellsFl_len cellsFl_one (by decide) (by kernel_rfl) (SX.src_own (by kernel_rfl)) (by simp) (by simp)) ?_
 generalize hfl:leafF at_ x salt=fl at *
 have hfll:fl.length≤1048576:=by rw [← hfl];simp [leafF,signF]
 refine SX.VC_df (.tuple #[.agg ((encL fl).flatMap c8).toArray,.int .i64 0]) (fun α=>⟨[⟨.agg #[.int .i64 3,.int .i64 0,.string ⟨#[]⟩,(α 26).h],0,[]⟩],[⟨(α 26).h,4,flL fl⟩],⟨by kernel_rfl,by kernel_rfl,trivial⟩,⟨by rw [← hfl];kernel_rfl,trivial⟩,⟨rfl,(α 26).h,fl,rfl,.inr (by simp),hfll,hf,rfl⟩,SX.noAli rfl⟩) (enc_fit _ _) ?_
 exact SX.VC_ret fun α W _ hR hS=>⟨hS.below,(α 28).h,by kernel_rfl,SX.SlRet.ext0 hS (n:=28) (b:=(⟨[(.x 14 [0])],0,(.ext 1)⟩:SX.Blk)) (by kernel_rfl) rfl (hR 28 _ (by kernel_rfl)) (Eq.trans (b:=[Value.agg ((encL fl).flatMap c8).toArray].flatMap SX.cellsV) (by kernel_rfl) (by simp [SX.cellsV])) (fun W2 s z xs hk=>nomatch hk) (fun B s z xs hk=>nomatch hk)⟩
def sealV(person count:Int)(root:Dg)(E S:Int):Value:=.agg ([Value.int .i64 person,Value.int .i64 count]++cellsDg root++[Value.int .i64 E,Value.int .i64 S]).toArray
def tree_esigned:SX.Tree :=
(.df (.apo 4 56 (.own 4 [(.i 1),(.x 0 [0]),(.k (.string ⟨#[]⟩)),(.k (.slice none 0 0))])) [(.a [(.i 2),(.i 0),(.k (.string ⟨#[108,105,109,105,116,115]⟩)),(.k (.slice none 0 0))]),(.sl 5 0 1 1)] .any
(.df (.app 4 56 (.own 4 [(.i 1),(.x 0 [1]),(.k (.string ⟨#[]⟩)),(.k (.slice none 0 0))])) [(.cat [(.q 1)]),(.sl 7 0 1 1)] .any
(.df .b2s [(.a (SX.Y 0 2 32))] .one
(.df (.app 4 56 (.own 4 [(.i 2),(.i 0),(.q 3),(.k (.slice none 0 0))])) [(.cat [(.q 1),(.q 2)]),(.sl 16 0 1 1)] .any
(.df (.callg 61 [.no] [(.row 4 [(.q 1),(.q 2),(.q 4)])]) [(.a [(.i 3),(.i 0),(.k (.string ⟨#[]⟩)),(.row 17)]),(.row 17)] (.tp [(.sl 1),.one])
(.ret (.row 19) (List.replicate 19 none++[(some ⟨[(.x 5 [0])],0,(.ext 1)⟩)]) []))))))
def args_esigned:List SX.V:=[.a ([.x 0 [0],.x 0 [1]]++((List.range 32).map fun j=>.x 0 [2+j])++[.x 0 [34],.x 0 [35]])]
set_option maxRecDepth 100000 in
theorem run_esigned(K A:Value→Nat→List Value→Prop):(SX.run (cxS1 K A) ⟨fun f=>true,[],2,100⟩ 100000 0 (SX.door 17 Tryd.f17 args_esigned [.ag 36]) [.code (Tryd.f17.body.getD .skip),.top Tryd.f17]).strip=tree_esigned:=by kernel_rfl
set_option maxRecDepth 100000 in
set_option maxHeartbeats 4000000 in
theorem signed_any(person count E S:Int)(root:Dg)(w:World)(hf:∀ z∈signF person count root,z.fits):Calls Tryd.prog 17 #[sealV person count root E S] w fun e w'=>Below w.heap.size w w'∧∃ hdr,e=.returned hdr∧SX.SlRet w w' [] hdr 1 ((encL (signF person count root)).flatMap c8):=by
 refine SX.calls_of_run (C:=cxS1 (fun _ _ _=>False) (fun _ _ _=>False)) (G:=⟨fun f=>true,[],2,100⟩) (args:=args_esigned) (sh:=[.ag 36]) (ρ:=[sealV person count root E S]) 100000 tree_esigned (okS1 _ _) Tryd.func17 rfl (run_esigned _ _) (by kernel_rfl) (by kernel_rfl) (by kernel_rfl) ?_ ?_
 ·exact fun W hW v z xs h=>h.elim
 unfold tree_esigned
 refine SX.E (.agg (([Fl.s limitsT]++[Fl.n person]).flatMap cellsFl).toArray) (fun α=>SX.apo_rel (f:=cellsFl) (l1:=[Fl.s limitsT]) (l2:=[Fl.n person]) cellsFl_len cellsFl_one (by decide) (by kernel_rfl) (SX.src_own (by kernel_rfl)) (by simp) (by simp) (by simp)) ?_
 refine SX.E (.agg (([Fl.n count]:List Fl).flatMap cellsFl).toArray) (fun α=>SX.app_rel (f:=cellsFl) (l1:=[.s limitsT,.n person]) (l2:=[Fl.n count]) cellsFl_len cellsFl_one (by decide) (by kernel_rfl) (SX.src_own (by kernel_rfl)) (by simp) (by simp)) ?_
 refine SX.E (.string (bt (dgL root))) (fun α=>b2s_row (l:=dgL root) (by kernel_rfl)) ?_
 refine SX.E (.agg (([Fl.s (bt (dgL root))]:List Fl).flatMap cellsFl).toArray) (fun α=>SX.app_rel (f:=cellsFl) (l1:=[.s limitsT,.n person,.n count]) (l2:=[Fl.s (bt (dgL root))]) cellsFl_len cellsFl_one (by decide) (by kernel_rfl) (SX.src_own (by kernel_rfl)) (by simp) (by simp)) ?_
 generalize hfl:signF person count root=fl at *
 have hfll:fl.length≤1048576:=by rw [← hfl];simp [leafF,signF]
 refine SX.VC_df (.tuple #[.agg ((encL fl).flatMap c8).toArray,.int .i64 0]) (fun α=>⟨[⟨.agg #[.int .i64 3,.int .i64 0,.string ⟨#[]⟩,(α 17).h],0,[]⟩],[⟨(α 17).h,4,flL fl⟩],⟨by kernel_rfl,by kernel_rfl,trivial⟩,⟨by rw [← hfl];kernel_rfl,trivial⟩,⟨rfl,(α 17).h,fl,rfl,.inr (by simp),hfll,hf,rfl⟩,SX.noAli rfl⟩) (enc_fit _ _) ?_
 exact SX.VC_ret fun α W _ hR hS=>⟨hS.below,(α 19).h,by kernel_rfl,SX.SlRet.ext0 hS (n:=19) (b:=(⟨[(.x 5 [0])],0,(.ext 1)⟩:SX.Blk)) (by kernel_rfl) rfl (hR 19 _ (by kernel_rfl)) (Eq.trans (b:=[Value.agg ((encL fl).flatMap c8).toArray].flatMap SX.cellsV) (by kernel_rfl) (by simp [SX.cellsV])) (fun W2 s z xs hk=>nomatch hk) (fun B s z xs hk=>nomatch hk)⟩
def inL(l:List Int):List Value:=l.flatMap fun k=>[Value.int .i64 k]
def h3V(t:Hd3):Value:=.slice t.1 t.2.1 t.2.2
def txtE(ls:List Lim)(ss:List Int)(i:Nat):List W8:=encL (leafF (i:Int) (ls.getD i default) (ss.getD i 0))
def RnL(K:Value→Nat→List Value→Prop)(f:FuncId)(xs:List SX.Arg)(Q:Value→List SX.Arg→Prop):Prop:=f=36∧∃ (k s:Int) (x:Lim),xs=[⟨.int .i64 k,0,[]⟩,⟨valLm x,0,[]⟩,⟨.int .i64 s,0,[]⟩]∧(∀ z∈leafF k x s,z.fits)∧∀ A n c,Q (.slice A n c) [⟨.slice A n c,1,(encL (leafF k x s)).flatMap c8⟩]
noncomputable def cxM5(nb:Nat)(K A:Value→Nat→List Value→Prop):SX.Cx:={ nsh:=fun f=>if f=36 then some .one else none,Rn:=RnL,nb:=nb,P:=Tryd.prog,R:=fun _ _ _ _=>False,shp:=fun _=>none,K:=K,A:=A,trm:=true,tl:=[36] }
theorem okM5(nb:Nat)(K A:Value→Nat→List Value→Prop):(cxM5 nb K A).Ok:=by
 refine SX.Cx.ok_nd (fun _=>rfl) (fun K f xs v W hR _ _=>hR.elim) fun f sh hs K xs Q W h hrd hK=>?_
 obtain⟨rfl,k,s,x,rfl,hf,hQ⟩:=h
 have hs:some SX.Sh.one=some sh:=hs
 cases hs
 refine(leaf_any k s x W hf).mono fun e w' ⟨h1,hdr,h2,⟨A2,n2,c2,h3,_⟩,h4,h5⟩=>?_
 subst h3
 refine⟨h1,_,_,h2,rfl,hQ A2 n2 c2,fun y hy=>?_⟩
 obtain rfl:y=⟨.slice A2 n2 c2,1,(encL (leafF k x s)).flatMap c8⟩:=by simpa using hy
 exact⟨h4,h5.resolve_right fun⟨y,hy,_⟩=>nomatch hy⟩
def tree_eleaves:SX.Tree :=
(.df (.len false) [(.q 0)] .one
(.loop [(.i 0),(.cat [])] [.one,.any]
(.df (.bin .lss 3) [(.q 3),(.q 2)] .one
(.br 5 []
(.df .bnd [(.q 0),(.q 3)] .one
(.df (.elems 9 0 9) [(.q 0),(.q 3)] (.ag 9)
(.df .bnd [(.q 1),(.q 3)] .one
(.df (.elem 1 0) [(.q 1),(.q 3)] .one
(.df (.callq 36 [.no,.no,.no]) [(.q 3),(.a (SX.Y 7 0 9)),(.q 9)] .one
(.df (.app 1 24 (.own 1 [(.q 10)])) [(.cat [(.q 4)]),(.sl 5 0 1 1)] .any
(.df (.bin .add 3) [(.q 3),(.i 1)] .one
(.again 0 [(.q 12),(.cat [(.q 4),(.q 11)])]))))))))
(.ret (.row 3) [none,none,none,(some ⟨[(.q 4)],57,(.row 1)⟩)] [])))))
def args_eleaves:List SX.V:=[.a [.x 0 [],.x 1 []]]
def cfgLeaves:SX.Cfg:=⟨fun f=>f != 36,[⟨20,2,[(.s 8,.one),(.s 2,.row 1 57)]⟩],12,100⟩
set_option maxRecDepth 100000 in
theorem run_eleaves(nb:Nat)(K A:Value→Nat→List Value→Prop):(SX.run (cxM5 nb K A) cfgLeaves 100000 0 (SX.door 20 Tryd.f20 args_eleaves [.one,.one]) [.code (Tryd.f20.body.getD .skip),.top Tryd.f20]).strip=tree_eleaves:=by kernel_rfl
set_option maxRecDepth 100000 in
set_option maxHeartbeats 4000000 in
theorem leaves_any(ls:List Lim)(ss:List Int)(A:Option Addr)(n c:Nat)(B:Option Addr)(m d:Nat)(w:World)(hr:Rd w 9 A n (lmL ls))(hc:n≤c)(hr2:Rd w 1 B m (inL ss))(hd:m≤d)(hnm:ls.length=ss.length)(hl:ls.length≤1000000)(hf:∀ i,i<ls.length→∀ z∈leafF (i:Int) (ls.getD i default) (ss.getD i 0),z.fits):Calls Tryd.prog 20 #[.agg #[.slice A n c,.slice B m d]] w fun e w'=>Below w.heap.size w w'∧∃ (hdr:Value)(hs:List Hd3),e=.returned hdr∧hs.length=ls.length∧SX.SlRet w w' [] hdr 1 (hs.flatMap cellsH3)∧∀ j h,hs[j]?=some h→SX.SlRet w w' [] (h3V h) 1 ((txtE ls ss j).flatMap c8):=by
 refine SX.calls_of_run (C:=cxM5 w.heap.size (KW w) (fun _ _ _=>False)) (G:=cfgLeaves) (args:=args_eleaves) (sh:=[.one,.one]) (ρ:=[.slice A n c,.slice B m d]) 100000 tree_eleaves (okM5 _ _ _) Tryd.func20 rfl (run_eleaves _ _ _) (by kernel_rfl) (by kernel_rfl) (by kernel_rfl) ?_ ?_ ⟨rfl,Nat.le_refl _⟩
 ·exact fun W hW v z xs h=>h W hW
 have hA:=SX.rd_some hr
 have hB:=SX.rd_some hr2
 have hln:ls.length=n:=by have:=hr.1;rw [lmL_len]at this;omega
 have hlm:ss.length=m:=by
  have h1:=hr2.1
  have h2:(inL ss).length=ss.length*1:=SX.flat_len (f:=fun k:Int=>[Value.int .i64 k]) (fun _=>rfl) ss
  omega
 have hK1:∀ N,((cxM5 w.heap.size (KW w) (fun _ _ _=>False)).plus N).K (.slice A n c) 9 (lmL ls):=fun N=>SX.K_pl (C:=cxM5 w.heap.size (KW w) (fun _ _ _=>False)) fun W hW=>⟨hr.same0 hW,hc⟩
 have hK2:∀ N,((cxM5 w.heap.size (KW w) (fun _ _ _=>False)).plus N).K (.slice B m d) 1 (inL ss):=fun N=>SX.K_pl (C:=cxM5 w.heap.size (KW w) (fun _ _ _=>False)) fun W hW=>⟨hr2.same0 hW,hd⟩
 unfold tree_eleaves
 refine SX.D (.int .i64 (n:Int)) ?_
 refine SX.VC_loopN (fun xs N=>∃ hs:List Hd3,xs=[.int .i64 ((hs.length:Nat):Int),.agg (hs.flatMap cellsH3).toArray]∧hs.length≤n∧∀ j h,hs[j]?=some h→(⟨h3V h,1,(txtE ls ss j).flatMap c8⟩:SX.Arg)∈N) (fun xs=>match xs with|.int _ i::_=>n-i.toNat|_=>0) (fun _=>rfl) (fun α=>⟨[],(fun y hy=>nomatch hy),[],by kernel_rfl,by simp,fun j h hh=>nomatch hh⟩) ?_
 rintro xs N-⟨hs,rfl,hle,hN⟩
 refine SX.E (.bool (decide (hs.length<n))) (fun α=>cast (by kernel_rfl) (lss_nat hs.length n)) ?_
 refine SX.B (decide (hs.length<n)) (fun h1=>?_) (fun h1=>?_)
 ·have h1:hs.length<n:=by simpa using h1
  obtain⟨x,hx⟩:∃ x,ls[hs.length]?=some x:=⟨_,List.getElem?_eq_getElem (by omega)⟩
  obtain⟨s,hs1⟩:∃ s,ss[hs.length]?=some s:=⟨_,List.getElem?_eq_getElem (by omega)⟩
  have hxd:ls.getD hs.length default=x:=by rw [List.getD_eq_getElem?_getD,hx];rfl
  have hsd:ss.getD hs.length 0=s:=by rw [List.getD_eq_getElem?_getD,hs1];rfl
  have hfi:=hf hs.length (by omega)
  have hT:txtE ls ss hs.length=encL (leafF ((hs.length:Nat):Int) x s):=by unfold txtE;rw [hxd,hsd]
  rw [hxd,hsd]at hfi
  refine SX.E (.bool true) (fun α=>SX.extBnd (A:=A) (n:=n) (c:=c) (j:=hs.length) hA (by kernel_rfl) (by kernel_rfl) h1) ?_
  refine SX.E (valLm x) (fun α=>SX.extElems (f:=cellsLm) (l:=ls) (A:=A) (n:=n) (c:=c) (j:=hs.length) (z:=x) (fun _=>rfl) hA (by kernel_rfl) (by kernel_rfl) h1 (hK1 _) hx) ?_
  refine SX.E (.bool true) (fun α=>SX.extBnd (A:=B) (n:=m) (c:=d) (j:=hs.length) hB (by kernel_rfl) (by kernel_rfl) (by omega)) ?_
  refine SX.E (.int .i64 s) (fun α=>SX.extElem (o:=0) (v:=.int .i64 s) (f:=fun k:Int=>[Value.int .i64 k]) (l:=ss) (A:=B) (n:=m) (c:=d) (j:=hs.length) (z:=s) (fun _=>rfl) hB (by kernel_rfl) (by kernel_rfl) (by omega) (hK2 _) hs1 (by decide) (by kernel_rfl)) ?_
  refine SX.VC_dn (fun v N3=>∃ A2 n2 c2,v=.slice A2 n2 c2∧N3=[⟨.slice A2 n2 c2,1,(txtE ls ss hs.length).flatMap c8⟩]) (fun _=>rfl) (fun α=>⟨[⟨.int .i64 ((hs.length:Nat):Int),0,[]⟩,⟨valLm x,0,[]⟩,⟨.int .i64 s,0,[]⟩],⟨by kernel_rfl,by kernel_rfl,by kernel_rfl,by kernel_rfl,by kernel_rfl,by kernel_rfl,trivial⟩,rfl,_,s,x,rfl,hfi,fun A2 n2 c2=>⟨A2,n2,c2,rfl,by rw [hT]⟩⟩) ?_
  rintro _ _-⟨A2,n2,c2,rfl,rfl⟩
  refine SX.E (.agg ([((A2,n2,c2):Hd3)].flatMap cellsH3).toArray) (fun α=>SX.app_rel (f:=cellsH3) (l1:=hs) (l2:=[((A2,n2,c2):Hd3)]) (fun _=>rfl) cellsH3_one (by decide) (SX.cat1 (j:=4) (by kernel_rfl)) (SX.src_own (by kernel_rfl)) (by simp;omega) (by simp;omega)) ?_
  refine SX.E (.int .i64 ((hs.length+1:Nat):Int)) (fun α=>cast (by kernel_rfl) (i_add' (a:=hs.length) (b:=1) (d:=hs.length+1) rfl (by omega))) ?_
  exact SX.VC_again fun α=>⟨rfl,_,(fun y hy=>hy),⟨hs++[(A2,n2,c2)],Eq.trans (b:=[.int .i64 ((hs.length+1:Nat):Int),.agg ([Value.agg (hs.flatMap cellsH3).toArray,.agg ([((A2,n2,c2):Hd3)].flatMap cellsH3).toArray].flatMap SX.cellsV).toArray]) (by kernel_rfl) (by simp [SX.cellsV]),by simp;omega,fun j h hh=>by
   rcases Nat.lt_or_ge j hs.length with hj|hj
   ·rw [List.getElem?_append_left hj]at hh
    exact List.mem_append_right _ (hN j h hh)
   rw [List.getElem?_append_right hj]at hh
   have hj2:j=hs.length:=by have:=(List.getElem?_eq_some_iff.1 hh).1;simp at this;omega
   subst hj2
   simp at hh
   subst hh
   exact List.mem_append_left _ (List.mem_singleton.2 rfl)⟩,cast (by kernel_rfl) (show n-((hs.length+1:Nat):Int).toNat<n-((hs.length:Nat):Int).toNat by omega)⟩
 have h1:¬ hs.length<n:=by simpa using h1
 refine SX.VC_ret fun α W _ hrow hS=>⟨hS.below,_,hs,by kernel_rfl,by omega,SX.SlRet.row hS (n:=3) (b:=(⟨[(.x 4 [])],57,(.row 1)⟩:SX.Blk)) (by kernel_rfl) rfl (hrow 3 _ (by kernel_rfl)) (Eq.trans (b:=[Value.agg (hs.flatMap cellsH3).toArray].flatMap SX.cellsV) (by kernel_rfl) (by simp [SX.cellsV])),fun j h hh=>?_⟩
 have hN2:=hS.fact (p:=SX.NF _) (List.mem_append.2 (.inr (List.mem_cons_of_mem _ (List.mem_cons_self ..)))) ⟨h3V h,1,(txtE ls ss j).flatMap c8⟩ (hN j h hh)
 exact⟨⟨h.1,h.2.1,h.2.2,rfl,hN2.1.2⟩,hN2.1,.inl hN2.2⟩
def PutQ(nx:Nat)(l:List Qe)(key:Value)(cs:List Value)(nx':Nat)(l':List Qe):Prop:=((∀ q∈l,q.key≠key)∧nx'=nx+1∧l'=l++[⟨key,cs,nx⟩])∨∃ j q,l[j]?=some q∧q.key=key∧nx'=nx∧l'=l.set j ⟨key,cs,q.born⟩
def DelQ(l:List Qe)(key:Value)(l':List Qe):Prop:=((∀ q∈l,q.key≠key)∧l'=l)∨∃ j q,l[j]?=some q∧q.key=key∧l'=l.eraseIdx j
def updF{κ β:Type} [DecidableEq κ] (F:κ→Option β)(i:κ)(o:Option β):κ→Option β:=fun j=>if j=i then o else F j
theorem PutQ.keys{nx nx':Nat}{l l':List Qe}{key:Value}{cs:List Value}{G:Value→Prop}(h:PutQ nx l key cs nx' l')(hk:∀ e∈l,G e.key)(hg:G key):∀ e∈l',G e.key:=by
 rcases h with ⟨_,rfl,rfl⟩|⟨j,q,h1,h2,rfl,rfl⟩
 ·intro e he
  rcases List.mem_append.1 he with he|he
  ·exact hk e he
  obtain rfl:=List.mem_singleton.1 he;exact hg
 intro e he
 rcases List.mem_or_eq_of_mem_set he with he|rfl
 ·exact hk e he
 exact hg
theorem DelQ.keys{l l':List Qe}{key:Value}{G:Value→Prop}(h:DelQ l key l')(hk:∀ e∈l,G e.key):∀ e∈l',G e.key:=by
 rcases h with ⟨_,rfl⟩|⟨j,q,_,_,rfl⟩
 ·exact hk
 exact fun e he=>hk e (List.mem_of_mem_eraseIdx he)
structure FMap{κ β:Type}(key:κ→Value)(f:β→List Value)(l:List Qe)(F:κ→Option β):Prop where
 nod:(l.map Qe.key).Nodup
 ent:∀ e∈l,∃ i x,e.key=key i∧e.cs=f x∧F i=some x
 all:∀ i x,F i=some x→∃ e∈l,e.key=key i
section
variable {κ β:Type}{key:κ→Value}{f:β→List Value}{l:List Qe}{F:κ→Option β}{i:κ}
theorem FMap.zero:FMap key f [] fun _=>none:=⟨List.nodup_nil,(fun e he=>nomatch he),(fun i x h=>nomatch h)⟩
theorem FMap.no(h:FMap key f l F)(hk:∀ a b,key a=key b→a=b)(hF:F i=none):∀ q∈l,q.key≠key i:=fun q hq e=>by
 obtain⟨j,x,h1,h2,h3⟩:=h.ent q hq
 have:=hk _ _ (h1.symm.trans e)
 subst this
 rw [hF]at h3;cases h3
theorem FMap.yes(h:FMap key f l F)(hk:∀ a b,key a=key b→a=b){x:β}(hF:F i=some x):∃ q∈l,q.key=key i∧q.cs=f x:=by
 obtain⟨q,hq,h1⟩:=h.all i x hF
 obtain⟨j,y,h2,h3,h4⟩:=h.ent q hq
 have:=hk _ _ (h1.symm.trans h2)
 subst this
 rw [hF]at h4;cases h4
 exact⟨q,hq,h1,h3⟩
variable [DecidableEq κ]
theorem updF_at(F:κ→Option β)(i:κ)(o:Option β):updF F i o i=o:=if_pos rfl
theorem updF_ne(F:κ→Option β){i j:κ}(o:Option β)(h:j≠i):updF F i o j=F j:=if_neg h
theorem FMap.put(h:FMap key f l F)(hk:∀ a b,key a=key b→a=b)(nx:Nat)(i:κ)(x:β):∃ nx' l',PutQ nx l (key i) (f x) nx' l'∧FMap key f l' (updF F i (some x)):=by
 cases hF:F i with
 | none =>
  have hno:=h.no hk hF
  refine⟨_,_,.inl ⟨hno,rfl,rfl⟩,?_,fun e he=>?_,fun j y hj=>?_⟩
  ·rw [List.map_append,List.nodup_append]
   refine⟨h.nod,by simp,fun a ha b hb=>?_⟩
   obtain⟨q,hq,rfl⟩:=List.mem_map.1 ha
   simp only [List.map_cons,List.map_nil,List.mem_singleton]at hb
   rw [hb];exact hno q hq
  ·rcases List.mem_append.1 he with he|he
   ·obtain⟨j,y,h1,h2,h3⟩:=h.ent e he
    refine⟨j,y,h1,h2,?_⟩
    rw [updF_ne _ _ fun hj=>hno e he (by rw [h1,hj])];exact h3
   obtain rfl:=List.mem_singleton.1 he
   exact⟨i,x,rfl,rfl,updF_at ..⟩
  by_cases hji:j=i
  ·subst hji;exact⟨_,List.mem_append_right _ (List.mem_singleton.2 rfl),rfl⟩
  rw [updF_ne _ _ hji]at hj
  obtain⟨e,he,h1⟩:=h.all j y hj
  exact⟨e,List.mem_append_left _ he,h1⟩
 | some x0 =>
  obtain⟨q,hq,h1,h2⟩:=h.yes hk hF
  obtain⟨n,hn⟩:=List.getElem?_of_mem hq
  have hnl:=(List.getElem?_eq_some_iff.1 hn).1
  have hkeys:(l.set n (⟨key i,f x,q.born⟩:Qe)).map Qe.key=l.map Qe.key:=by
   rw [List.map_set]
   apply List.ext_getElem?
   intro m
   by_cases hm:n=m
   ·subst hm;rw [List.getElem?_set_self (by simpa using hnl),List.getElem?_map,hn];simp [h1]
   rw [List.getElem?_set_ne hm]
  refine⟨nx,_,.inr ⟨n,q,hn,h1,rfl,rfl⟩,by rw [hkeys];exact h.nod,fun e he=>?_,fun j y hj=>?_⟩
  ·obtain⟨m,hm⟩:=List.getElem?_of_mem he
   by_cases hnm:n=m
   ·subst hnm
    rw [List.getElem?_set_self hnl]at hm
    cases hm
    exact⟨i,x,rfl,rfl,updF_at ..⟩
   rw [List.getElem?_set_ne hnm]at hm
   obtain⟨j,y,h3,h4,h5⟩:=h.ent e (List.mem_of_getElem? hm)
   refine⟨j,y,h3,h4,?_⟩
   rw [updF_ne _ _ fun hj=>hnm (nodup_at h.nod hn hm (by rw [h1,h3,hj]))];exact h5
  by_cases hji:j=i
  ·subst hji;exact⟨_,List.mem_of_getElem? (List.getElem?_set_self hnl),rfl⟩
  rw [updF_ne _ _ hji]at hj
  obtain⟨e,he,h3⟩:=h.all j y hj
  obtain⟨m,hm⟩:=List.getElem?_of_mem he
  have hnm:n≠m:=fun hnm=>by subst hnm;rw [hn]at hm;cases hm;exact hji (hk _ _ (h3.symm.trans h1))
  exact⟨e,List.mem_of_getElem? ((List.getElem?_set_ne hnm).trans hm),h3⟩
theorem FMap.del(h:FMap key f l F)(hk:∀ a b,key a=key b→a=b)(i:κ):∃ l',DelQ l (key i) l'∧FMap key f l' (updF F i none):=by
 cases hF:F i with
 | none =>
  refine⟨_,.inl ⟨h.no hk hF,rfl⟩,h.nod,fun e he=>?_,fun j y hj=>?_⟩
  ·obtain⟨j,y,h1,h2,h3⟩:=h.ent e he
   refine⟨j,y,h1,h2,?_⟩
   rw [updF_ne _ _ fun hj=>h.no hk hF e he (by rw [h1,hj])];exact h3
  by_cases hji:j=i
  ·subst hji;rw [updF_at]at hj;cases hj
  rw [updF_ne _ _ hji]at hj;exact h.all j y hj
 | some x0 =>
  obtain⟨q,hq,h1,h2⟩:=h.yes hk hF
  obtain⟨n,hn⟩:=List.getElem?_of_mem hq
  have hmem:∀ e,e∈l.eraseIdx n↔e∈l∧e.key≠key i:=by
   intro e
   rw [List.mem_eraseIdx_iff_getElem?]
   constructor
   ·rintro⟨m,hm,he⟩
    exact⟨List.mem_of_getElem? he,fun hke=>hm (nodup_at h.nod he hn (hke.trans h1.symm))⟩
   rintro⟨he,hne⟩
   obtain⟨m,hm⟩:=List.getElem?_of_mem he
   exact⟨m,fun hmn=>by subst hmn;rw [hn]at hm;cases hm;exact hne h1,hm⟩
  refine⟨_,.inr ⟨n,q,hn,h1,rfl⟩,?_,fun e he=>?_,fun j y hj=>?_⟩
  ·exact h.nod.sublist ((List.eraseIdx_sublist ..).map _)
  ·obtain⟨h3,h4⟩:=(hmem e).1 he
   obtain⟨j,y,h5,h6,h7⟩:=h.ent e h3
   refine⟨j,y,h5,h6,?_⟩
   rw [updF_ne _ _ fun hj=>h4 (by rw [h5,hj])];exact h7
  by_cases hji:j=i
  ·subst hji;rw [updF_at]at hj;cases hj
  rw [updF_ne _ _ hji]at hj
  obtain⟨e,he,h3⟩:=h.all j y hj
  exact⟨e,(hmem e).2 ⟨he,fun h4=>hji (hk _ _ (h3.symm.trans h4))⟩,h3⟩
end
namespace SX
section
variable {C:Cx}{ρ:List Value}{α:Nat→AV}{κ β:Type}{key:κ→Value}{f:β→List Value}{l:List Qe}{F:κ→Option β}{i:κ}{kt:TypeId}{k nx:Nat}{c x:V}
theorem mapQ_of(h:FMap key f l F)(hf:∀ x,(f x).length=k){G:Value→Prop}(hK:KeyOk C.P kt G)(hk:∀ e∈l,G e.key)(hki:G (key i))(hc:cellsV (c.den ρ α)=qCells nx l)(hx:x.den ρ α=key i):MapQ C.P kt k (cellsV (c.den ρ α)) (x.den ρ α) nx l :=
 ⟨hc,fun e he=>by obtain⟨j,y,_,h2,_⟩:=h.ent e he;rw [h2];exact hf y,h.nod,G,hK,hk,by rw [hx];exact hki⟩
theorem mlk_rel{ok ag:Bool}{z v:Value}(h:FMap key f l F)(hinj:∀ a b,key a=key b→a=b)(hf:∀ x,(f x).length=k){G:Value→Prop}(hK:KeyOk C.P kt G)(hk:∀ e∈l,G e.key)(hki:G (key i))(hc:cellsV (c.den ρ α)=qCells nx l)(hx:x.den ρ α=key i)
 (hv:v=match F i with|some y=>if ok then .tuple #[elV ag (f y),.bool true]else elV ag (f y)|none=>if ok then .tuple #[z,.bool false]else z):Opq.rel C ρ α (.mlk ok kt k ag z) [c,x] v:=by
 refine⟨nx,l,mapQ_of h hf hK hk hki hc hx,?_⟩
 rw [hx]
 cases hF:F i with
 | none=>rw [hF]at hv;exact .inl ⟨h.no hinj hF,hv⟩
 | some y =>
  rw [hF]at hv
  obtain⟨q,hq,h1,h2⟩:=h.yes hinj hF
  exact .inr ⟨q,hq,h1,by rw [h2];exact hv⟩
theorem mset_rel{ag:Bool}{vs:List V}{y:β}{nx':Nat}{l':List Qe}(h:FMap key f l F)(hf:∀ x,(f x).length=k){G:Value→Prop}(hK:KeyOk C.P kt G)(hk:∀ e∈l,G e.key)(hki:G (key i))(hc:cellsV (c.den ρ α)=qCells nx l)(hx:x.den ρ α=key i)(hvs:denL ρ α vs=f y)(hp:PutQ nx l (key i) (f y) nx' l'):Opq.rel C ρ α (.mset kt k ag) (c::x::vs) (.agg (qCells nx' l').toArray):=by
 refine⟨nx,l,mapQ_of h hf hK hk hki hc hx,?_⟩
 rw [hx,hvs]
 rcases hp with ⟨h1,rfl,rfl⟩|⟨j,q,h1,h2,rfl,rfl⟩
 ·exact .inl ⟨h1,rfl⟩
 exact .inr ⟨j,q,h1,h2,rfl⟩
end
end SX
def elemOk(x:Lim):Prop:=(0≤x.no∧x.no≤1048576)∧(0≤x.person∧x.person≤63)∧(0≤x.from_∧x.from_≤x.to_)∧x.to_≤73048∧(0≤x.known∧x.known≤134217727)∧(capOk x.kind x.limb x.n∨(x.kind=0∧x.limb=0∧x.n=0∧x.of_≠0))
instance (x:Lim):Decidable (elemOk x):=by unfold elemOk;infer_instance
theorem elemOk_iff{x:Lim}:elemOk x↔(0≤x.no∧x.no≤1048576)∧(0≤x.person∧x.person≤63)∧(0≤x.from_∧x.from_≤x.to_)∧x.to_≤73048∧(0≤x.known∧x.known≤134217727)∧(capOk x.kind x.limb x.n∨(x.kind=0∧x.limb=0∧x.n=0∧x.of_≠0)):=Iff.rfl
def refOk(p:List Lim)(x:Lim):Prop:=x.of_=0∨((∀ y∈p,y.of_≠x.of_)∧∃ y∈p,y.no+1=x.of_∧y.person=x.person∧y.known≤x.known)
instance (p:List Lim) (x:Lim):Decidable (refOk p x):=by unfold refOk;infer_instance
def okAt(l:List Lim)(i:Nat)(z:Lim):Prop:=elemOk z∧(∀ y∈l.take i,y.no<z.no)∧refOk (l.take i) z
def okL(l:List Lim):Prop:=∀ i z,l[i]?=some z→okAt l i z
noncomputable instance (l:List Lim):Decidable (okL l):=Classical.propDecidable _
def okTo(l:List Lim)(i:Nat):Prop:=∀ j z,j<i→l[j]?=some z→okAt l j z
noncomputable def chkL(l:List Lim):Int:=if 512<l.length then 2 else if okL l then 0 else 340
theorem okTo_zero(l:List Lim):okTo l 0:=fun j z h=>absurd h (by omega)
theorem okTo_succ{l:List Lim}{i:Nat}{z:Lim}(h:okTo l i)(hz:l[i]?=some z)(ha:okAt l i z):okTo l (i+1):=fun j y hj hy=>by
 by_cases he:j=i
 ·subst he;rw [hz]at hy;cases hy;exact ha
 exact h j y (by omega) hy
theorem okTo_len{l:List Lim}{i:Nat}(h:okTo l i)(hi:l.length≤i):okL l:=fun j y hy=>h j y (Nat.lt_of_lt_of_le (List.getElem?_eq_some_iff.1 hy).1 hi) hy
theorem not_ok{l:List Lim}{i:Nat}{z:Lim}(hz:l[i]?=some z)(h:¬ okAt l i z):¬ okL l:=fun hk=>h (hk i z hz)
theorem ex_take1{l:List Lim}{i:Nat}{z:Lim}(hz:l[i]?=some z){P:Lim→Prop}:(∃ q∈l.take (i+1),P q)↔(∃ q∈l.take i,P q)∨P z:=by
 rw [List.take_add_one,hz]
 simp only [Option.toList_some,List.mem_append,List.mem_singleton]
 constructor
 ·rintro⟨q,h|rfl,hq⟩
  ·exact .inl ⟨q,h,hq⟩
  exact .inr hq
 rintro(⟨q,h,hq⟩|h)
 ·exact⟨q,.inl h,hq⟩
 exact⟨z,.inr rfl,h⟩
theorem all_take1{l:List Lim}{i:Nat}{z:Lim}(hz:l[i]?=some z){P:Lim→Prop}:(∀ q∈l.take (i+1),P q)↔(∀ q∈l.take i,P q)∧P z:=by
 rw [List.take_add_one,hz]
 simp only [Option.toList_some,List.mem_append,List.mem_singleton]
 constructor
 ·exact fun h=>⟨fun q hq=>h q (.inl hq),h z (.inr rfl)⟩
 rintro⟨h,hz⟩ q (hq|rfl)
 ·exact h q hq
 exact hz
theorem mem_takeI{l:List Lim}{i j:Nat}{z:Lim}(hz:l[j]?=some z)(h:j<i):z∈l.take i:=List.mem_of_getElem? (i:=j) (by rw [List.getElem?_take,if_pos h];exact hz)
theorem take_memI{l:List Lim}{i:Nat}{z:Lim}(h:z∈l.take i):∃ j,j<i∧l[j]?=some z:=by
 obtain⟨j,hj⟩:=List.mem_iff_getElem?.1 h
 rw [List.getElem?_take]at hj
 split at hj
 ·exact⟨j,by assumption,hj⟩
 cases hj
def cellsCap(p:Int×Int×Int):List Value:=[.int .i64 p.1,.int .i64 p.2.1,.int .i64 p.2.2]
theorem cellsCap_inj(a b:Int×Int×Int)(h:cellsCap a=cellsCap b):a=b:=by
 obtain⟨a1,a2,a3⟩:=a
 obtain⟨b1,b2,b3⟩:=b
 simpa [cellsCap]using h
theorem lms_arg{W:World}{u:Value}{ls:List Lim}(h:SX.Arg.rd W ⟨u,9,lmL ls⟩):∃ A n c,u=.slice A n c∧Rd W 9 A n (lmL ls)∧n≤c∧ls.length=n:=by
 unfold SX.Arg.rd at h
 split at h
 ·rename_i A n c hu
  have hu:u=.slice A n c:=hu
  refine⟨A,n,c,hu,h.1,h.2,?_⟩
  have:=h.1.1;simp only [lmL_len]at this;omega
 cases h
def RLC(f:FuncId)(xs:List SX.Arg)(v:Value):Prop:=f=33∧∃ k l n:Int,xs=[⟨.agg #[.int .i64 k,.int .i64 l,.int .i64 n],0,[]⟩]∧v=.bool (decide (capOk k l n))
def shpLC:FuncId→Option SX.Sh:=fun f=>if f=33 then some .one else none
noncomputable def cxLC(K A:Value→Nat→List Value→Prop):SX.Cx:={ P:=Tryd.prog,R:=fun _=>RLC,shp:=shpLC,K:=K,A:=A,trm:=true }
theorem okLC(K A:Value→Nat→List Value→Prop):(cxLC K A).Ok:=by
 refine SX.Cx.ok_of (fun _=>rfl) ?_
 intro K f xs v W hR hrd hKf
 obtain⟨rfl,k,l,n,rfl,rfl⟩:=hR
 exact(cvalid_any k l n W).mono fun e w' h=>SX.plainOk rfl h
def keyI(i:Int):Value:=.int .i64 i
theorem keyI_inj(a b:Int)(h:keyI a=keyI b):a=b:=by injection h
def yesC(_:Unit):List Value:=[.bool true]
theorem kd_int:KeyOk Tryd.prog 3 (MapKept.IsKey (.int .i64)):=KeyOk.plain (by kernel_rfl)
def fitLm(ls:List Lim):Prop:=∀ z∈ls,-9223372036854775808≤z.of_∧z.of_≤9223372036854775807
structure InvL(ls:List Lim)(i:Nat)(last:Int)(lk lr:List Qe)(M:Int→Option Lim)(G:Int→Option Unit):Prop where
 ok:okTo ls i
 la:∀ v,last<v↔0≤v∧∀ y∈ls.take i,y.no<v
 m:FMap keyI cellsLm lk M
 mkk:∀ e∈lk,MapKept.IsKey (.int .i64) e.key
 g:FMap keyI yesC lr G
 gk:∀ e∈lr,MapKept.IsKey (.int .i64) e.key
 hm:∀ q y,M q=some y↔y∈ls.take i∧y.no=q
 hg:∀ q,G q=some ()↔∃ y∈ls.take i,y.of_=q
theorem invL_zero(ls:List Lim):InvL ls 0 (-1) [] [] (fun _=>none) (fun _=>none):=⟨okTo_zero ls,fun v=>by simp;omega,FMap.zero,(fun e he=>nomatch he),FMap.zero,(fun e he=>nomatch he),fun q y=>by simp,fun q=>by simp⟩
theorem invL_succ{ls:List Lim}{i:Nat}{last:Int}{lk lr lk2 lr2:List Qe}{M:Int→Option Lim}{G:Int→Option Unit}{z:Lim}{nk nr nk2 nr2:Nat}(h:InvL ls i last lk lr M G)(hz:ls[i]?=some z)(hp:PutQ nk lk (keyI z.no) (cellsLm z) nk2 lk2)(hp2:PutQ nr lr (keyI z.of_) (yesC ()) nr2 lr2)(hM:FMap keyI cellsLm lk2 (updF M z.no (some z)))(hG:FMap keyI yesC lr2 (updF G z.of_ (some ())))(ha:okAt ls i z):InvL ls (i+1) z.no lk2 lr2 (updF M z.no (some z)) (updF G z.of_ (some ())):=by
 have h0:=(elemOk_iff.1 ha.1).1
 refine⟨okTo_succ h.ok hz ha,fun v=>?_,hM,hp.keys h.mkk rfl,hG,hp2.keys h.gk rfl,fun q y=>?_,fun q=>?_⟩
 ·rw [all_take1 hz]
  exact⟨fun h=>⟨by omega,fun y hy=>by have:=ha.2.1 y hy;omega,h⟩,fun h=>h.2.2⟩
 ·have key:=ex_take1 hz (P:=fun x=>x=y∧x.no=q)
  have e1:(y∈ls.take (i+1)∧y.no=q)↔∃ x∈ls.take (i+1),x=y∧x.no=q:=⟨fun h=>⟨y,h.1,rfl,h.2⟩,fun⟨x,hx,e,e2⟩=>by subst e;exact⟨hx,e2⟩⟩
  have e2:(∃ x∈ls.take i,x=y∧x.no=q)↔(y∈ls.take i∧y.no=q):=⟨fun⟨x,hx,e,e2⟩=>by subst e;exact⟨hx,e2⟩,fun h=>⟨y,h.1,rfl,h.2⟩⟩
  rw [e1,key,e2]
  by_cases hq:q=z.no
  ·subst hq
   rw [updF_at]
   constructor
   ·intro h;exact .inr ⟨Option.some.inj h,rfl⟩
   rintro(⟨hy,hyq⟩|⟨hy,-⟩)
   ·exact absurd (ha.2.1 y hy) (by omega)
   rw [hy]
  rw [updF_ne _ _ hq,h.hm]
  exact⟨.inl,fun h=>h.elim id fun h=>absurd h.2.symm hq⟩
 rw [ex_take1 hz]
 by_cases hq:q=z.of_
 ·subst hq
  rw [updF_at]
  exact⟨fun _=>.inr rfl,fun _=>rfl⟩
 rw [updF_ne _ _ hq,h.hg]
 exact⟨.inl,fun h=>h.elim id fun h=>absurd h.symm hq⟩
theorem uniqL{ls:List Lim}{i:Nat}(h:okTo ls i){y y':Lim}(hy:y∈ls.take i)(hy':y'∈ls.take i)(he:y.no=y'.no):y=y':=by
 obtain⟨j,hj,hy⟩:=take_memI hy
 obtain⟨k,hk,hy'⟩:=take_memI hy'
 rcases Nat.lt_trichotomy j k with hjk|hjk|hjk
 ·have:=(h k y' hk hy').2.1 y (mem_takeI hy hjk);omega
 ·subst hjk;rw [hy]at hy';exact Option.some.inj hy'
 ·have:=(h j y hj hy).2.1 y' (mem_takeI hy' hjk);omega
theorem wrapOf{a b:Int}(h1 : -9223372036854775808≤a)(h2:a≤9223372036854775807)(h3:0≤b)(h4:b≤1048576):b=IntKind.i64.wrap (a-1)↔b+1=a:=by
 by_cases h:a = -9223372036854775808
 ·subst h
  have:IntKind.i64.wrap (-9223372036854775808-1)=9223372036854775807:=by decide
  rw [this];omega
 rw [wrap_i64 (by omega) (by omega)];omega
def zeroLm:Lim:=⟨0,0,0,0,0,0,0,0,0⟩
theorem look_known{ls:List Lim}{i:Nat}{last:Int}{lk lr:List Qe}{M:Int→Option Lim}{G:Int→Option Unit}(h:InvL ls i last lk lr M G)(q:Int):∃ (y:Lim)(b:Bool),((M q=some y∧b=true)∨(M q=none∧y=zeroLm∧b=false))∧(b=true→y∈ls.take i∧y.no=q)∧(b=false→∀ y'∈ls.take i,y'.no≠q):=by
 cases hg:M q with
 | none=>exact⟨zeroLm,false,.inr ⟨rfl,rfl,rfl⟩,nofun,fun _ y' hy' he=>by have:=(h.hm q y').2 ⟨hy',he⟩;rw [hg]at this;cases this⟩
 | some y=>exact⟨y,true,.inl ⟨rfl,rfl⟩,fun _=>(h.hm q y).1 hg,nofun⟩
theorem look_repl{ls:List Lim}{i:Nat}{last:Int}{lk lr:List Qe}{M:Int→Option Lim}{G:Int→Option Unit}(h:InvL ls i last lk lr M G)(q:Int):∃ b:Bool,((G q=some ()∧b=true)∨(G q=none∧b=false))∧(b=true↔∃ y∈ls.take i,y.of_=q):=by
 cases hg:G q with
 | none=>exact⟨false,.inr ⟨rfl,rfl⟩,nofun,fun h'=>by have:=(h.hg q).2 h';rw [hg]at this;cases this⟩
 | some y=>exact⟨true,.inl ⟨rfl,rfl⟩,fun _=>(h.hg q).1 hg,fun _=>rfl⟩
def tree_lCheck:SX.Tree :=
(.df (.len false) [(.q 0)] .one
(.df (.bin .gtr 3) [(.q 1),(.i 512)] .one
(.br 2 []
(.ret (.i 2) [] [])
(.df (.len false) [(.q 0)] .one
(.loop [(.i 0),(.i (-1)),(.a [(.i 0)]),(.a [(.i 0)])] [.one,.one,.any,.any]
(.df (.bin .lss 3) [(.q 4),(.q 3)] .one
(.br 8 []
(.df .bnd [(.q 0),(.q 4)] .one
(.df (.elems 9 0 9) [(.q 0),(.q 4)] (.ag 9)
(.df (.bin .sub 3) [(.x 10 [2]),(.i 1)] .one
(.df (.mlk true 3 9 true (.agg #[(.int .i64 0),(.int .i64 0),(.int .i64 0),(.int .i64 0),(.int .i64 0),(.int .i64 0),(.int .i64 0),(.int .i64 0),(.int .i64 0)])) [(.cat [(.q 6)]),(.q 11)] (.tp [(.ag 9),.one])
(.df (.bin .leq 3) [(.x 10 [0]),(.q 5)] .one
(.br 13 []
(.ret (.i 340) [] [])
(.df (.bin .gtr 3) [(.x 10 [0]),(.i 1048576)] .one
(.br 14 []
(.ret (.i 340) [] [])
(.df (.bin .leq 3) [(.i 0),(.x 10 [1])] .one
(.br 15 []
(.df (.bin .leq 3) [(.x 10 [1]),(.i 63)] .one
(.df .not [(.q 16)] .one
(.br 17 []
(.ret (.i 340) [] [])
(.df (.bin .lss 3) [(.x 10 [3]),(.i 0)] .one
(.br 18 []
(.ret (.i 340) [] [])
(.df (.bin .gtr 3) [(.x 10 [3]),(.x 10 [4])] .one
(.br 19 []
(.ret (.i 340) [] [])
(.df (.bin .gtr 3) [(.x 10 [4]),(.i 73048)] .one
(.br 20 []
(.ret (.i 340) [] [])
(.df (.bin .leq 3) [(.i 0),(.x 10 [5])] .one
(.br 21 []
(.df (.bin .leq 3) [(.x 10 [5]),(.i 134217727)] .one
(.df .not [(.q 22)] .one
(.br 23 []
(.ret (.i 340) [] [])
(.df (.call 33 [.no]) [(.a [(.x 10 [6]),(.x 10 [7]),(.x 10 [8])])] .one
(.df .not [(.q 24)] .one
(.br 25 []
(.df (.eqr true 3 [(.i .i64),(.i .i64),(.i .i64)]) (SX.Y 10 6 3++[(.i 0),(.i 0),(.i 0)]) .one
(.br 26 []
(.ret (.i 340) [] [])
(.df (.bin .eql 3) [(.x 10 [2]),(.i 0)] .one
(.br 27 []
(.ret (.i 340) [] [])
(.df (.bin .neq 3) [(.x 10 [2]),(.i 0)] .one
(.br 28 []
(.df .not [(.x 12 [1])] .one
(.br 29 []
(.ret (.i 340) [] [])
(.df (.mlk false 3 1 false (.bool false)) [(.cat [(.q 7)]),(.x 10 [2])] .one
(.br 30 []
(.ret (.i 340) [] [])
(.df (.bin .neq 3) [(.x 12 [0,1]),(.x 10 [1])] .one
(.br 31 []
(.ret (.i 340) [] [])
(.df (.bin .gtr 3) [(.x 12 [0,5]),(.x 10 [5])] .one
(.br 32 []
(.ret (.i 340) [] [])
(.df (.mset 3 9 true) [(.cat [(.q 6)]),(.x 10 [0]),(.x 10 [0]),(.x 10 [1]),(.x 10 [2]),(.x 10 [3]),(.x 10 [4]),(.x 10 [5]),(.x 10 [6]),(.x 10 [7]),(.x 10 [8])] .any
(.df (.mset 3 1 false) [(.cat [(.q 7)]),(.x 10 [2]),(.k (.bool true))] .any
(.df (.bin .add 3) [(.q 4),(.i 1)] .one
(.again 0 [(.q 35),(.x 10 [0]),(.q 33),(.q 34)]))))))))))))
(.df (.mset 3 9 true) [(.cat [(.q 6)]),(.x 10 [0]),(.x 10 [0]),(.x 10 [1]),(.x 10 [2]),(.x 10 [3]),(.x 10 [4]),(.x 10 [5]),(.x 10 [6]),(.x 10 [7]),(.x 10 [8])] .any
(.df (.mset 3 1 false) [(.cat [(.q 7)]),(.x 10 [2]),(.k (.bool true))] .any
(.df (.bin .add 3) [(.q 4),(.i 1)] .one
(.again 0 [(.q 31),(.x 10 [0]),(.q 29),(.q 30)]))))))))))
(.df (.bin .neq 3) [(.x 10 [2]),(.i 0)] .one
(.br 26 []
(.df .not [(.x 12 [1])] .one
(.br 27 []
(.ret (.i 340) [] [])
(.df (.mlk false 3 1 false (.bool false)) [(.cat [(.q 7)]),(.x 10 [2])] .one
(.br 28 []
(.ret (.i 340) [] [])
(.df (.bin .neq 3) [(.x 12 [0,1]),(.x 10 [1])] .one
(.br 29 []
(.ret (.i 340) [] [])
(.df (.bin .gtr 3) [(.x 12 [0,5]),(.x 10 [5])] .one
(.br 30 []
(.ret (.i 340) [] [])
(.df (.mset 3 9 true) [(.cat [(.q 6)]),(.x 10 [0]),(.x 10 [0]),(.x 10 [1]),(.x 10 [2]),(.x 10 [3]),(.x 10 [4]),(.x 10 [5]),(.x 10 [6]),(.x 10 [7]),(.x 10 [8])] .any
(.df (.mset 3 1 false) [(.cat [(.q 7)]),(.x 10 [2]),(.k (.bool true))] .any
(.df (.bin .add 3) [(.q 4),(.i 1)] .one
(.again 0 [(.q 33),(.x 10 [0]),(.q 31),(.q 32)]))))))))))))
(.df (.mset 3 9 true) [(.cat [(.q 6)]),(.x 10 [0]),(.x 10 [0]),(.x 10 [1]),(.x 10 [2]),(.x 10 [3]),(.x 10 [4]),(.x 10 [5]),(.x 10 [6]),(.x 10 [7]),(.x 10 [8])] .any
(.df (.mset 3 1 false) [(.cat [(.q 7)]),(.x 10 [2]),(.k (.bool true))] .any
(.df (.bin .add 3) [(.q 4),(.i 1)] .one
(.again 0 [(.q 29),(.x 10 [0]),(.q 27),(.q 28)]))))))))))))
(.ret (.i 340) [] []))))))))))))
(.ret (.i 340) [] [])))))))))))
(.ret (.i 0) [] []))))))))
def args_lCheck:List SX.V:=[.x 0 []]
set_option maxRecDepth 100000 in
theorem run_lCheck(K A:Value→Nat→List Value→Prop):(SX.run (cxLC K A) ⟨fun f=>true,[⟨12,7,[(.s 19,.one),(.c 3 0,.one),(.c 0 0,.any),(.c 1 0,.any)]⟩],0,100⟩ 100000 0 (SX.door 12 Tryd.f12 args_lCheck [.one]) [.code (Tryd.f12.body.getD .skip),.top Tryd.f12]).strip=tree_lCheck:=by kernel_rfl
set_option maxRecDepth 100000 in
set_option maxHeartbeats 4000000 in
theorem lCheck_any(ls:List Lim)(A:Option Addr)(n c:Nat)(w:World)(hr:Rd w 9 A n (lmL ls))(hn:n≤9223372036854775807)(hc:n≤c)(hfit:fitLm ls):Calls Tryd.prog 12 #[.slice A n c] w fun e w'=>e=.returned (.int .i64 (chkL ls))∧Below w.heap.size w w':=by
 refine SX.calls_of_run (C:=cxLC (fun s sz cells=>s=.slice A n c∧sz=9∧cells=lmL ls) (fun _ _ _=>False)) (G:=⟨fun f=>true,[⟨12,7,[(.s 19,.one),(.c 3 0,.one),(.c 0 0,.any),(.c 1 0,.any)]⟩],0,100⟩) (args:=args_lCheck) (sh:=[.one]) (ρ:=[.slice A n c]) 100000 tree_lCheck (okLC _ _) Tryd.func12 rfl (run_lCheck _ _) (by kernel_rfl) (by kernel_rfl) (by kernel_rfl) ?_ ?_
 ·rintro W hW s sz cells ⟨rfl,rfl,rfl⟩;exact⟨hr.same0 hW,hc⟩
 have hA:=SX.rd_some hr
 have hln:ls.length=n:=by have:=hr.1;rw [lmL_len]at this;omega
 unfold tree_lCheck
 refine SX.D (.int .i64 (((n:Nat):Int))) ?_
 refine SX.D (.bool (decide (((n:Nat):Int)>512))) ?_
 refine SX.B (decide (((n:Nat):Int)>512)) (fun h2=>?_) (fun h2=>?_)
 ·try simp only [NRM]at h2
  exact SX.F (.int .i64 2) (by rw [chkL,if_pos (by omega)])
 try simp only [NRM]at h2
 refine SX.D (.int .i64 (((n:Nat):Int))) ?_
 refine SX.VC_loop (fun xs=>∃ (i:Nat) (last:Int) (nk:Nat) (lk:List Qe) (nr:Nat) (lr:List Qe) (M:Int→Option Lim) (G:Int→Option Unit),xs=[.int .i64 (i:Int),.int .i64 last,.agg (qCells nk lk).toArray,.agg (qCells nr lr).toArray]∧i≤n∧InvL ls i last lk lr M G) (fun xs=>match xs with|(.int _ i)::_=>n-i.toNat|_=>0) (fun α=>⟨0,-1,0,[],0,[],_,_,by kernel_rfl,by omega,invL_zero ls⟩) ?_
 rintro xs-⟨i,last,nk,lk,nr,lr,M,G,rfl,hin,hI⟩
 refine SX.D (.bool (decide (((i:Nat):Int)<((n:Nat):Int)))) ?_
 refine SX.B (decide (((i:Nat):Int)<((n:Nat):Int))) (fun h8=>?_) (fun h8=>?_)
 ·try simp only [NRM]at h8
  obtain⟨z,hz⟩:∃ z,ls[i]?=some z:=⟨_,List.getElem?_eq_getElem (by omega)⟩
  refine SX.E (.bool true) (fun α=>SX.extBnd (A:=A) (n:=n) (c:=c) (j:=i) hA (by kernel_rfl) (by kernel_rfl) (by omega)) ?_
  refine SX.E (.agg (cellsLm z).toArray) (fun α=>SX.extElems (f:=cellsLm) (l:=ls) (A:=A) (n:=n) (c:=c) (j:=i) (z:=z) (fun _=>rfl) hA (by kernel_rfl) (by kernel_rfl) (by omega) ⟨rfl,rfl,rfl⟩ hz) ?_
  obtain⟨y,fd,hlook,hf1,hf2⟩:=look_known hI (IntKind.i64.wrap (z.of_-1))
  obtain⟨rp,hlr,hrep⟩:=look_repl hI z.of_
  obtain⟨nk2,lk2,hpk,hM2⟩:=hI.m.put keyI_inj nk z.no z
  obtain⟨nr2,lr2,hpr,hG2⟩:=hI.g.put keyI_inj nr z.of_ ()
  have hzf:=hfit z (List.mem_of_getElem? hz)
  have hno:∀ y'∈ls.take i,0≤y'.no∧y'.no≤1048576:=fun y' hy'=>by obtain⟨j,hj,hy'⟩:=take_memI hy';exact(elemOk_iff.1 (hI.1 j y' hj hy').1).1
  refine SX.D (.int .i64 (IntKind.i64.wrap (z.of_-1))) ?_
  refine SX.E (.tuple #[.agg #[.int .i64 y.no,.int .i64 y.person,.int .i64 y.of_,.int .i64 y.from_,.int .i64 y.to_,.int .i64 y.known,.int .i64 y.kind,.int .i64 y.limb,.int .i64 y.n],.bool fd]) (fun α=>SX.mlk_rel (nx:=nk) (i:=IntKind.i64.wrap (z.of_-1)) hI.m keyI_inj (fun _=>rfl) kd_int hI.mkk rfl (SX.cat1 (by kernel_rfl)) (by kernel_rfl) (by rcases hlook with ⟨e1,e2⟩|⟨e1,e2,e3⟩<;>subst_vars<;>rw [e1]<;>rfl)) ?_
  refine SX.D (.bool (decide (z.no≤last))) ?_
  refine SX.B (decide (z.no≤last)) (fun h13=>?_) (fun h13=>?_)
  ·try simp only [NRM]at h13
   exact SX.F (.int .i64 340) (by rw [chkL,if_neg (by omega),if_neg (not_ok hz fun hk=>by
    have ⟨hk1,hk2,hk3,hk4,hk5,hk6⟩:=elemOk_iff.1 hk.1;have q:=(hI.la z.no).2 ⟨by omega,hk.2.1⟩;omega)])
  try simp only [NRM]at h13
  refine SX.D (.bool (decide (z.no>1048576))) ?_
  refine SX.B (decide (z.no>1048576)) (fun h14=>?_) (fun h14=>?_)
  ·try simp only [NRM]at h14
   exact SX.F (.int .i64 340) (by rw [chkL,if_neg (by omega),if_neg (not_ok hz fun hk=>by
    have ⟨hk1,hk2,hk3,hk4,hk5,hk6⟩:=elemOk_iff.1 hk.1;omega)])
  try simp only [NRM]at h14
  refine SX.D (.bool (decide (0≤z.person))) ?_
  refine SX.B (decide (0≤z.person)) (fun h15=>?_) (fun h15=>?_)
  ·try simp only [NRM]at h15
   refine SX.D (.bool (decide (z.person≤63))) ?_
   refine SX.D (.bool (!(decide (z.person≤63)))) ?_
   refine SX.B (!(decide (z.person≤63))) (fun h17=>?_) (fun h17=>?_)
   ·try simp only [NRM]at h17
    exact SX.F (.int .i64 340) (by rw [chkL,if_neg (by omega),if_neg (not_ok hz fun hk=>by
     have ⟨hk1,hk2,hk3,hk4,hk5,hk6⟩:=elemOk_iff.1 hk.1;have q:=h17;(try simp at q);omega)])
   try simp only [NRM]at h17
   refine SX.D (.bool (decide (z.from_<0))) ?_
   refine SX.B (decide (z.from_<0)) (fun h18=>?_) (fun h18=>?_)
   ·try simp only [NRM]at h18
    exact SX.F (.int .i64 340) (by rw [chkL,if_neg (by omega),if_neg (not_ok hz fun hk=>by
     have ⟨hk1,hk2,hk3,hk4,hk5,hk6⟩:=elemOk_iff.1 hk.1;omega)])
   try simp only [NRM]at h18
   refine SX.D (.bool (decide (z.from_>z.to_))) ?_
   refine SX.B (decide (z.from_>z.to_)) (fun h19=>?_) (fun h19=>?_)
   ·try simp only [NRM]at h19
    exact SX.F (.int .i64 340) (by rw [chkL,if_neg (by omega),if_neg (not_ok hz fun hk=>by
     have ⟨hk1,hk2,hk3,hk4,hk5,hk6⟩:=elemOk_iff.1 hk.1;omega)])
   try simp only [NRM]at h19
   refine SX.D (.bool (decide (z.to_>73048))) ?_
   refine SX.B (decide (z.to_>73048)) (fun h20=>?_) (fun h20=>?_)
   ·try simp only [NRM]at h20
    exact SX.F (.int .i64 340) (by rw [chkL,if_neg (by omega),if_neg (not_ok hz fun hk=>by
     have ⟨hk1,hk2,hk3,hk4,hk5,hk6⟩:=elemOk_iff.1 hk.1;omega)])
   try simp only [NRM]at h20
   refine SX.D (.bool (decide (0≤z.known))) ?_
   refine SX.B (decide (0≤z.known)) (fun h21=>?_) (fun h21=>?_)
   ·try simp only [NRM]at h21
    refine SX.D (.bool (decide (z.known≤134217727))) ?_
    refine SX.D (.bool (!(decide (z.known≤134217727)))) ?_
    refine SX.B (!(decide (z.known≤134217727))) (fun h23=>?_) (fun h23=>?_)
    ·try simp only [NRM]at h23
     exact SX.F (.int .i64 340) (by rw [chkL,if_neg (by omega),if_neg (not_ok hz fun hk=>by
      have ⟨hk1,hk2,hk3,hk4,hk5,hk6⟩:=elemOk_iff.1 hk.1;have q:=h23;(try simp at q);omega)])
    try simp only [NRM]at h23
    refine SX.E (.bool (decide (capOk z.kind z.limb z.n))) (fun α=>⟨[⟨.agg #[.int .i64 z.kind,.int .i64 z.limb,.int .i64 z.n],0,[]⟩],⟨by kernel_rfl,by kernel_rfl,trivial⟩,⟨rfl,_,_,_,rfl,rfl⟩,SX.noAli rfl⟩) ?_
    refine SX.D (.bool (!(decide (capOk z.kind z.limb z.n)))) ?_
    refine SX.B (!(decide (capOk z.kind z.limb z.n))) (fun h25=>?_) (fun h25=>?_)
    ·try simp only [NRM]at h25
     refine SX.E (.bool (true ^^ decide ((z.kind,z.limb,z.n)=((0:Int),(0:Int),(0:Int))))) (fun α=>SX.eqr_rel (f:=cellsCap) cellsCap_inj (y:=(z.kind,z.limb,z.n)) (z:=((0:Int),(0:Int),(0:Int))) (by kernel_rfl) (by kernel_rfl) (by kernel_rfl)) ?_
     refine SX.B (true ^^ decide ((z.kind,z.limb,z.n)=((0:Int),(0:Int),(0:Int)))) (fun h26=>?_) (fun h26=>?_)
     ·try simp only [NRM]at h26
      exact SX.F (.int .i64 340) (by rw [chkL,if_neg (by omega),if_neg (not_ok hz fun hk=>by
       have ⟨hk1,hk2,hk3,hk4,hk5,hk6⟩:=elemOk_iff.1 hk.1;exact hk6.elim (fun h=>by have q:=h25;simp [h]at q) (fun h=>by have q:=h26;simp [h.1,h.2.1,h.2.2.1]at q))])
     try simp only [NRM]at h26
     refine SX.D (.bool ((z.of_:Int) == 0)) ?_
     refine SX.B ((z.of_:Int) == 0) (fun h27=>?_) (fun h27=>?_)
     ·try simp only [NRM]at h27
      exact SX.F (.int .i64 340) (by rw [chkL,if_neg (by omega),if_neg (not_ok hz fun hk=>by
       have ⟨hk1,hk2,hk3,hk4,hk5,hk6⟩:=elemOk_iff.1 hk.1;exact hk6.elim (fun h=>by have q:=h25;simp [h]at q) (fun h=>h.2.2.2 (by simpa using h27)))])
     try simp only [NRM]at h27
     refine SX.D (.bool ((z.of_:Int) != 0)) ?_
     refine SX.B ((z.of_:Int) != 0) (fun h28=>?_) (fun h28=>?_)
     ·try simp only [NRM]at h28
      refine SX.D (.bool (!(fd))) ?_
      refine SX.B (!(fd)) (fun h29=>?_) (fun h29=>?_)
      ·try simp only [NRM]at h29
       exact SX.F (.int .i64 340) (by rw [chkL,if_neg (by omega),if_neg (not_ok hz fun hk=>by
        have hz0:z.of_≠0:=by simpa using h28
        obtain⟨hr1,y1,hy1,hy2,hy3,hy4⟩:=hk.2.2.resolve_left hz0
        exact hf2 (by simpa using h29) y1 hy1 ((wrapOf hzf.1 hzf.2 (hno y1 hy1).1 (hno y1 hy1).2).2 hy2))])
      try simp only [NRM]at h29
      refine SX.E (.bool rp) (fun α=>SX.mlk_rel (nx:=nr) (i:=z.of_) hI.g keyI_inj (fun _=>rfl) kd_int hI.gk rfl (SX.cat1 (by kernel_rfl)) (by kernel_rfl) (by rcases hlr with ⟨e1,e2⟩|⟨e1,e2⟩<;>subst_vars<;>rw [e1]<;>rfl)) ?_
      refine SX.B rp (fun h30=>?_) (fun h30=>?_)
      ·try simp only [NRM]at h30
       exact SX.F (.int .i64 340) (by rw [chkL,if_neg (by omega),if_neg (not_ok hz fun hk=>by
        have hz0:z.of_≠0:=by simpa using h28
        obtain⟨hr1,y1,hy1,hy2,hy3,hy4⟩:=hk.2.2.resolve_left hz0
        obtain⟨y2,hy5,hy6⟩:=hrep.1 h30;exact hr1 y2 hy5 hy6)])
      try simp only [NRM]at h30
      refine SX.D (.bool ((y.person:Int) != z.person)) ?_
      refine SX.B ((y.person:Int) != z.person) (fun h31=>?_) (fun h31=>?_)
      ·try simp only [NRM]at h31
       exact SX.F (.int .i64 340) (by rw [chkL,if_neg (by omega),if_neg (not_ok hz fun hk=>by
        have hz0:z.of_≠0:=by simpa using h28
        obtain⟨hr1,y1,hy1,hy2,hy3,hy4⟩:=hk.2.2.resolve_left hz0
        have hyy:=uniqL hI.1 (hf1 (by simpa using h29)).1 hy1 (by rw [(hf1 (by simpa using h29)).2,(wrapOf hzf.1 hzf.2 (hno y1 hy1).1 (hno y1 hy1).2).2 hy2]);subst hyy;have q:=h31;simp [hy3]at q)])
      try simp only [NRM]at h31
      refine SX.D (.bool (decide (y.known>z.known))) ?_
      refine SX.B (decide (y.known>z.known)) (fun h32=>?_) (fun h32=>?_)
      ·try simp only [NRM]at h32
       exact SX.F (.int .i64 340) (by rw [chkL,if_neg (by omega),if_neg (not_ok hz fun hk=>by
        have hz0:z.of_≠0:=by simpa using h28
        obtain⟨hr1,y1,hy1,hy2,hy3,hy4⟩:=hk.2.2.resolve_left hz0
        have hyy:=uniqL hI.1 (hf1 (by simpa using h29)).1 hy1 (by rw [(hf1 (by simpa using h29)).2,(wrapOf hzf.1 hzf.2 (hno y1 hy1).1 (hno y1 hy1).2).2 hy2]);subst hyy;omega)])
      try simp only [NRM]at h32
      refine SX.E (.agg (qCells nk2 lk2).toArray) (fun α=>SX.mset_rel hI.m (fun _=>rfl) kd_int hI.mkk rfl (SX.cat1 (by kernel_rfl)) (by kernel_rfl) (by kernel_rfl) hpk) ?_
      refine SX.E (.agg (qCells nr2 lr2).toArray) (fun α=>SX.mset_rel hI.g (fun _=>rfl) kd_int hI.gk rfl (SX.cat1 (by kernel_rfl)) (by kernel_rfl) (by kernel_rfl) hpr) ?_
      refine SX.E (.int .i64 (((i+1:Nat):Int))) (fun α=>SX.W1 i) ?_
      exact SX.VC_again fun α=>⟨⟨i+1,z.no,nk2,lk2,nr2,lr2,_,_,by kernel_rfl,by omega,invL_succ hI hz hpk hpr hM2 hG2 ⟨elemOk_iff.2 ⟨(by have q1:=(hI.la z.no).1 (by omega);omega),(by have q:=h17;(try simp at q);omega),(by  omega),(by  omega),(by have q:=h23;(try simp at q);omega),.inr (by have q1:=h26;have q2:=h27;simp at q1 q2;exact⟨q1.1,q1.2.1,q1.2.2,q2⟩)⟩,((hI.la z.no).1 (by omega)).2,.inr ⟨fun y' hy' he=>by have q:=h30;rw [Bool.eq_false_iff]at q;exact q (hrep.2 ⟨y',hy',he⟩),y,(hf1 (by simpa using h29)).1,(wrapOf hzf.1 hzf.2 (hno y (hf1 (by simpa using h29)).1).1 (hno y (hf1 (by simpa using h29)).1).2).1 (hf1 (by simpa using h29)).2,by simpa using h31,by omega⟩⟩⟩,cast (by kernel_rfl) (show n-((i+1:Nat):Int).toNat<n-(i:Int).toNat by omega)⟩
     try simp only [NRM]at h28
     refine SX.E (.agg (qCells nk2 lk2).toArray) (fun α=>SX.mset_rel hI.m (fun _=>rfl) kd_int hI.mkk rfl (SX.cat1 (by kernel_rfl)) (by kernel_rfl) (by kernel_rfl) hpk) ?_
     refine SX.E (.agg (qCells nr2 lr2).toArray) (fun α=>SX.mset_rel hI.g (fun _=>rfl) kd_int hI.gk rfl (SX.cat1 (by kernel_rfl)) (by kernel_rfl) (by kernel_rfl) hpr) ?_
     refine SX.E (.int .i64 (((i+1:Nat):Int))) (fun α=>SX.W1 i) ?_
     exact SX.VC_again fun α=>⟨⟨i+1,z.no,nk2,lk2,nr2,lr2,_,_,by kernel_rfl,by omega,invL_succ hI hz hpk hpr hM2 hG2 ⟨elemOk_iff.2 ⟨(by have q1:=(hI.la z.no).1 (by omega);omega),(by have q:=h17;(try simp at q);omega),(by  omega),(by  omega),(by have q:=h23;(try simp at q);omega),.inr (by have q1:=h26;have q2:=h27;simp at q1 q2;exact⟨q1.1,q1.2.1,q1.2.2,q2⟩)⟩,((hI.la z.no).1 (by omega)).2,.inl (by simpa using h28)⟩⟩,cast (by kernel_rfl) (show n-((i+1:Nat):Int).toNat<n-(i:Int).toNat by omega)⟩
    try simp only [NRM]at h25
    refine SX.D (.bool ((z.of_:Int) != 0)) ?_
    refine SX.B ((z.of_:Int) != 0) (fun h26=>?_) (fun h26=>?_)
    ·try simp only [NRM]at h26
     refine SX.D (.bool (!(fd))) ?_
     refine SX.B (!(fd)) (fun h27=>?_) (fun h27=>?_)
     ·try simp only [NRM]at h27
      exact SX.F (.int .i64 340) (by rw [chkL,if_neg (by omega),if_neg (not_ok hz fun hk=>by
       have hz0:z.of_≠0:=by simpa using h26
       obtain⟨hr1,y1,hy1,hy2,hy3,hy4⟩:=hk.2.2.resolve_left hz0
       exact hf2 (by simpa using h27) y1 hy1 ((wrapOf hzf.1 hzf.2 (hno y1 hy1).1 (hno y1 hy1).2).2 hy2))])
     try simp only [NRM]at h27
     refine SX.E (.bool rp) (fun α=>SX.mlk_rel (nx:=nr) (i:=z.of_) hI.g keyI_inj (fun _=>rfl) kd_int hI.gk rfl (SX.cat1 (by kernel_rfl)) (by kernel_rfl) (by rcases hlr with ⟨e1,e2⟩|⟨e1,e2⟩<;>subst_vars<;>rw [e1]<;>rfl)) ?_
     refine SX.B rp (fun h28=>?_) (fun h28=>?_)
     ·try simp only [NRM]at h28
      exact SX.F (.int .i64 340) (by rw [chkL,if_neg (by omega),if_neg (not_ok hz fun hk=>by
       have hz0:z.of_≠0:=by simpa using h26
       obtain⟨hr1,y1,hy1,hy2,hy3,hy4⟩:=hk.2.2.resolve_left hz0
       obtain⟨y2,hy5,hy6⟩:=hrep.1 h28;exact hr1 y2 hy5 hy6)])
     try simp only [NRM]at h28
     refine SX.D (.bool ((y.person:Int) != z.person)) ?_
     refine SX.B ((y.person:Int) != z.person) (fun h29=>?_) (fun h29=>?_)
     ·try simp only [NRM]at h29
      exact SX.F (.int .i64 340) (by rw [chkL,if_neg (by omega),if_neg (not_ok hz fun hk=>by
       have hz0:z.of_≠0:=by simpa using h26
       obtain⟨hr1,y1,hy1,hy2,hy3,hy4⟩:=hk.2.2.resolve_left hz0
       have hyy:=uniqL hI.1 (hf1 (by simpa using h27)).1 hy1 (by rw [(hf1 (by simpa using h27)).2,(wrapOf hzf.1 hzf.2 (hno y1 hy1).1 (hno y1 hy1).2).2 hy2]);subst hyy;have q:=h29;simp [hy3]at q)])
     try simp only [NRM]at h29
     refine SX.D (.bool (decide (y.known>z.known))) ?_
     refine SX.B (decide (y.known>z.known)) (fun h30=>?_) (fun h30=>?_)
     ·try simp only [NRM]at h30
      exact SX.F (.int .i64 340) (by rw [chkL,if_neg (by omega),if_neg (not_ok hz fun hk=>by
       have hz0:z.of_≠0:=by simpa using h26
       obtain⟨hr1,y1,hy1,hy2,hy3,hy4⟩:=hk.2.2.resolve_left hz0
       have hyy:=uniqL hI.1 (hf1 (by simpa using h27)).1 hy1 (by rw [(hf1 (by simpa using h27)).2,(wrapOf hzf.1 hzf.2 (hno y1 hy1).1 (hno y1 hy1).2).2 hy2]);subst hyy;omega)])
     try simp only [NRM]at h30
     refine SX.E (.agg (qCells nk2 lk2).toArray) (fun α=>SX.mset_rel hI.m (fun _=>rfl) kd_int hI.mkk rfl (SX.cat1 (by kernel_rfl)) (by kernel_rfl) (by kernel_rfl) hpk) ?_
     refine SX.E (.agg (qCells nr2 lr2).toArray) (fun α=>SX.mset_rel hI.g (fun _=>rfl) kd_int hI.gk rfl (SX.cat1 (by kernel_rfl)) (by kernel_rfl) (by kernel_rfl) hpr) ?_
     refine SX.E (.int .i64 (((i+1:Nat):Int))) (fun α=>SX.W1 i) ?_
     exact SX.VC_again fun α=>⟨⟨i+1,z.no,nk2,lk2,nr2,lr2,_,_,by kernel_rfl,by omega,invL_succ hI hz hpk hpr hM2 hG2 ⟨elemOk_iff.2 ⟨(by have q1:=(hI.la z.no).1 (by omega);omega),(by have q:=h17;(try simp at q);omega),(by  omega),(by  omega),(by have q:=h23;(try simp at q);omega),.inl (by simpa using h25)⟩,((hI.la z.no).1 (by omega)).2,.inr ⟨fun y' hy' he=>by have q:=h28;rw [Bool.eq_false_iff]at q;exact q (hrep.2 ⟨y',hy',he⟩),y,(hf1 (by simpa using h27)).1,(wrapOf hzf.1 hzf.2 (hno y (hf1 (by simpa using h27)).1).1 (hno y (hf1 (by simpa using h27)).1).2).1 (hf1 (by simpa using h27)).2,by simpa using h29,by omega⟩⟩⟩,cast (by kernel_rfl) (show n-((i+1:Nat):Int).toNat<n-(i:Int).toNat by omega)⟩
    try simp only [NRM]at h26
    refine SX.E (.agg (qCells nk2 lk2).toArray) (fun α=>SX.mset_rel hI.m (fun _=>rfl) kd_int hI.mkk rfl (SX.cat1 (by kernel_rfl)) (by kernel_rfl) (by kernel_rfl) hpk) ?_
    refine SX.E (.agg (qCells nr2 lr2).toArray) (fun α=>SX.mset_rel hI.g (fun _=>rfl) kd_int hI.gk rfl (SX.cat1 (by kernel_rfl)) (by kernel_rfl) (by kernel_rfl) hpr) ?_
    refine SX.E (.int .i64 (((i+1:Nat):Int))) (fun α=>SX.W1 i) ?_
    exact SX.VC_again fun α=>⟨⟨i+1,z.no,nk2,lk2,nr2,lr2,_,_,by kernel_rfl,by omega,invL_succ hI hz hpk hpr hM2 hG2 ⟨elemOk_iff.2 ⟨(by have q1:=(hI.la z.no).1 (by omega);omega),(by have q:=h17;(try simp at q);omega),(by  omega),(by  omega),(by have q:=h23;(try simp at q);omega),.inl (by simpa using h25)⟩,((hI.la z.no).1 (by omega)).2,.inl (by simpa using h26)⟩⟩,cast (by kernel_rfl) (show n-((i+1:Nat):Int).toNat<n-(i:Int).toNat by omega)⟩
   try simp only [NRM]at h21
   exact SX.F (.int .i64 340) (by rw [chkL,if_neg (by omega),if_neg (not_ok hz fun hk=>by
    have ⟨hk1,hk2,hk3,hk4,hk5,hk6⟩:=elemOk_iff.1 hk.1;omega)])
  try simp only [NRM]at h15
  exact SX.F (.int .i64 340) (by rw [chkL,if_neg (by omega),if_neg (not_ok hz fun hk=>by
   have ⟨hk1,hk2,hk3,hk4,hk5,hk6⟩:=elemOk_iff.1 hk.1;omega)])
 try simp only [NRM]at h8
 exact SX.F (.int .i64 0) (by rw [chkL,if_neg (by omega),if_pos (okTo_len hI.1 (by omega))])
def ofP(ls:List Lim)(person:Int):Prop:=chkL ls=0∧∀ y∈ls,y.person=person
noncomputable instance (ls:List Lim) (person:Int):Decidable (ofP ls person):=Classical.propDecidable _
def RM6(f:FuncId)(xs:List SX.Arg)(v:Value):Prop:=f=12∧∃ (u:Value) (ls:List Lim),xs=[⟨u,9,lmL ls⟩]∧ls.length≤9223372036854775807∧fitLm ls∧v=.int .i64 (chkL ls)
noncomputable def cxM6(K A:Value→Nat→List Value→Prop):SX.Cx:={ P:=Tryd.prog,R:=fun _=>RM6,shp:=fun f=>if f=12 then some .one else none,K:=K,A:=A,trm:=true }
theorem okM6(K A:Value→Nat→List Value→Prop):(cxM6 K A).Ok:=by
 refine SX.Cx.ok_of (fun _=>rfl) ?_
 intro K f xs v W hR hrd hKf
 obtain⟨rfl,u,ls,rfl,hl,hf,rfl⟩:=hR
 obtain⟨A,n,c,rfl,h2,h3,h4⟩:=lms_arg (hrd ⟨u,9,lmL ls⟩ (by simp))
 exact(lCheck_any ls A n c W h2 (by omega) h3 hf).mono fun e w' h=>SX.plainOk rfl h
def tree_eheld:SX.Tree :=
(.df (.call 12 [(.ext 9)]) [(.q 0)] .one
(.df (.bin .eql 44) [(.q 2),(.i 0)] .one
(.br 3 []
(.df (.len false) [(.q 0)] .one
(.loop [(.i 0)] [.one]
(.df (.bin .lss 3) [(.q 5),(.q 4)] .one
(.br 6 []
(.df .bnd [(.q 0),(.q 5)] .one
(.df (.elems 9 0 9) [(.q 0),(.q 5)] (.ag 9)
(.df (.bin .neq 3) [(.x 8 [1]),(.q 1)] .one
(.br 9 []
(.df (.bin .geq 3) [(.q 5),(.i 0)] .one
(.df .not [(.q 10)] .one
(.ret (.q 11) [] [])))
(.df (.bin .add 3) [(.q 5),(.i 1)] .one
(.again 0 [(.q 10)]))))))
(.ret (.k (.bool true)) [] [])))))
(.ret (.k (.bool false)) [] []))))
def args_eheld:List SX.V:=[.x 0 [],.x 1 []]
def cfgHeld:SX.Cfg:=⟨fun f=>true,[⟨85,2,[(.s 8,.one)]⟩],0,100⟩
set_option maxRecDepth 100000 in
theorem run_eheld(K A:Value→Nat→List Value→Prop):(SX.run (cxM6 K A) cfgHeld 100000 0 (SX.door 46 Tryd.f46 args_eheld [.one,.one]) [.code (Tryd.f46.body.getD .skip),.top Tryd.f46]).strip=tree_eheld:=by kernel_rfl
set_option maxRecDepth 100000 in
set_option maxHeartbeats 4000000 in
theorem held_any(ls:List Lim)(person:Int)(A:Option Addr)(n c:Nat)(w:World)(hr:Rd w 9 A n (lmL ls))(hc:n≤c)(hl:n≤1000000000)(hf:fitLm ls):Calls Tryd.prog 46 #[.slice A n c,.int .i64 person] w fun e w'=>e=.returned (.bool (decide (ofP ls person)))∧Below w.heap.size w w':=by
 refine SX.calls_of_run (C:=cxM6 (KW w) (fun _ _ _=>False)) (G:=cfgHeld) (args:=args_eheld) (sh:=[.one,.one]) (ρ:=[.slice A n c,.int .i64 person]) 100000 tree_eheld (okM6 _ _) Tryd.func46 rfl (run_eheld _ _) (by kernel_rfl) (by kernel_rfl) (by kernel_rfl) ?_ ?_
 ·exact fun W hW v z xs h=>h W hW
 have hA:=SX.rd_some hr
 have hln:ls.length=n:=by have:=hr.1;rw [lmL_len]at this;omega
 have hK1:KW w (.slice A n c) 9 (lmL ls):=fun W hW=>⟨hr.same0 hW,hc⟩
 unfold tree_eheld
 refine SX.E (.int .i64 (chkL ls)) (fun α=>⟨[⟨.slice A n c,9,lmL ls⟩],⟨by kernel_rfl,rfl,cast (by kernel_rfl) hK1,trivial⟩,⟨rfl,_,ls,rfl,by omega,hf,rfl⟩,SX.noAli rfl⟩) ?_
 refine SX.D (.bool (decide (chkL ls=0))) ?_
 refine SX.B (decide (chkL ls=0)) (fun h3=>?_) (fun h3=>?_)
 ·have h3:chkL ls=0:=by simpa using h3
  refine SX.D (.int .i64 (n:Int)) ?_
  refine SX.VC_loop (fun xs=>∃ k:Nat,k≤n∧xs=[.int .i64 (k:Int)]∧∀ y∈ls.take k,y.person=person) (fun xs=>match xs with|.int _ k::_=>n-k.toNat|_=>0) (fun α=>⟨0,by omega,by kernel_rfl,by simp⟩) ?_
  rintro xs-⟨k,hk,rfl,hI⟩
  refine SX.E (.bool (decide (k<n))) (fun α=>cast (by kernel_rfl) (lss_nat k n)) ?_
  refine SX.B (decide (k<n)) (fun h1=>?_) (fun h1=>?_)
  ·have h1:k<n:=by simpa using h1
   obtain⟨z,hz⟩:∃ z,ls[k]?=some z:=⟨_,List.getElem?_eq_getElem (by omega)⟩
   refine SX.E (.bool true) (fun α=>SX.extBnd (A:=A) (n:=n) (c:=c) (j:=k) hA (by kernel_rfl) (by kernel_rfl) h1) ?_
   refine SX.E (valLm z) (fun α=>SX.extElems (f:=cellsLm) (l:=ls) (A:=A) (n:=n) (c:=c) (j:=k) (z:=z) (fun _=>rfl) hA (by kernel_rfl) (by kernel_rfl) h1 (cast (by kernel_rfl) hK1) hz) ?_
   refine SX.D (.bool ((z.person:Int) != person)) ?_
   refine SX.B ((z.person:Int) != person) (fun h2=>?_) (fun h2=>?_)
   ·have h2:z.person≠person:=by simpa using h2
    have hno:decide (ofP ls person)=false:=decide_eq_false fun h=>h2 (h.2 z (List.mem_of_getElem? hz))
    refine SX.E (.bool (decide (0≤k))) (fun α=>cast (by kernel_rfl) (geq_nat k 0)) ?_
    refine SX.D (.bool (!decide (0≤k))) ?_
    rw [hno]
    exact SX.F (.bool (!decide (0≤k))) (by simp)
   have h2:z.person=person:=by simpa using h2
   refine SX.E (.int .i64 ((k+1:Nat):Int)) (fun α=>cast (by kernel_rfl) (i_add' (a:=k) (b:=1) (d:=k+1) rfl (by omega))) ?_
   exact VC_again2 rfl (fun α=>⟨k+1,by omega,by kernel_rfl,(all_take1 hz).2 ⟨hI,h2⟩⟩) (fun α=>cast (by kernel_rfl) (show n-((k+1:Nat):Int).toNat<n-(k:Int).toNat by omega))
  have h1:¬ k<n:=by simpa using h1
  have hyes:decide (ofP ls person)=true:=decide_eq_true ⟨h3,by rw [List.take_of_length_le (by omega)]at hI;exact hI⟩
  rw [hyes]
  exact SX.F (.bool true) rfl
 have h3:¬ chkL ls=0:=by simpa using h3
 have hno:decide (ofP ls person)=false:=decide_eq_false fun h=>h3 h.1
 rw [hno]
 exact SX.F (.bool false) rfl
def saltP(s:Int):Prop:=0≤s∧s≤1099511627776
def rightP(ls:List Lim)(ss:List Int)(person:Int):Prop:=1≤ls.length∧ls.length≤64∧ss.length=ls.length∧ofP ls person∧∀ s∈ss,saltP s
noncomputable instance (ls:List Lim) (ss:List Int) (person:Int):Decidable (rightP ls ss person):=Classical.propDecidable _
theorem inL_len(l:List Int):(inL l).length=l.length:=by have:=SX.flat_len (f:=fun k:Int=>[Value.int .i64 k]) (sz:=1) (fun _=>rfl) l;rw [Nat.mul_one]at this;exact this
theorem take1{β:Type}{l:List β}{i:Nat}{z:β}(hz:l[i]?=some z){P:β→Prop}(h:∀ q∈l.take i,P q)(hp:P z):∀ q∈l.take (i+1),P q:=fun q hq=>by
 rw [List.take_add_one,hz]at hq
 rcases List.mem_append.1 hq with hq|hq
 ·exact h q hq
 have:q=z:=by simpa using hq
 rw [this];exact hp
def RM7(f:FuncId)(xs:List SX.Arg)(v:Value):Prop:=f=46∧∃ (u:Value) (ls:List Lim) (person:Int),xs=[⟨u,9,lmL ls⟩,⟨.int .i64 person,0,[]⟩]∧ls.length≤1000000000∧fitLm ls∧v=.bool (decide (ofP ls person))
noncomputable def cxM7(K A:Value→Nat→List Value→Prop):SX.Cx:={ P:=Tryd.prog,R:=fun _=>RM7,shp:=fun f=>if f=46 then some .one else none,K:=K,A:=A,trm:=true }
theorem okM7(K A:Value→Nat→List Value→Prop):(cxM7 K A).Ok:=by
 refine SX.Cx.ok_of (fun _=>rfl) ?_
 intro K f xs v W hR hrd hKf
 obtain⟨rfl,u,ls,person,rfl,hl,hf,rfl⟩:=hR
 obtain⟨A,n,c,rfl,h2,h3,h4⟩:=lms_arg (hrd ⟨u,9,lmL ls⟩ (by simp))
 exact(held_any ls person A n c W h2 h3 (by omega) hf).mono fun e w' h=>SX.plainOk rfl h
def tree_eright:SX.Tree :=
(.df (.len false) [(.q 0)] .one
(.df (.bin .geq 3) [(.q 3),(.i 1)] .one
(.br 4 []
(.df (.len false) [(.q 0)] .one
(.df (.bin .leq 3) [(.q 5),(.i 64)] .one
(.br 6 []
(.df (.len false) [(.q 1)] .one
(.df (.len false) [(.q 0)] .one
(.df (.bin .eql 3) [(.q 7),(.q 8)] .one
(.br 9 []
(.df (.call 46 [(.ext 9),.no]) [(.q 0),(.q 2)] .one
(.br 10 []
(.df (.len false) [(.q 1)] .one
(.loop [(.i 0)] [.one]
(.df (.bin .lss 3) [(.q 12),(.q 11)] .one
(.br 13 []
(.df .bnd [(.q 1),(.q 12)] .one
(.df (.elem 1 0) [(.q 1),(.q 12)] .one
(.df (.bin .geq 3) [(.q 15),(.i 0)] .one
(.br 16 []
(.df (.bin .leq 3) [(.q 15),(.i 1099511627776)] .one
(.df .not [(.q 17)] .one
(.br 18 []
(.df (.bin .geq 3) [(.q 12),(.i 0)] .one
(.df .not [(.q 19)] .one
(.ret (.q 20) [] [])))
(.df (.bin .add 3) [(.q 12),(.i 1)] .one
(.again 0 [(.q 19)])))))
(.df (.bin .geq 3) [(.q 12),(.i 0)] .one
(.df .not [(.q 17)] .one
(.ret (.q 18) [] [])))))))
(.ret (.k (.bool true)) [] [])))))
(.ret (.k (.bool false)) [] [])))
(.ret (.k (.bool false)) [] [])))))
(.ret (.k (.bool false)) [] []))))
(.ret (.k (.bool false)) [] []))))
def args_eright:List SX.V:=[.a [.x 0 [],.x 1 []],.x 2 []]
def cfgRight:SX.Cfg:=⟨fun f=>true,[⟨64,2,[(.s 8,.one)]⟩],0,100⟩
set_option maxRecDepth 100000 in
theorem run_eright(K A:Value→Nat→List Value→Prop):(SX.run (cxM7 K A) cfgRight 100000 0 (SX.door 18 Tryd.f18 args_eright [.one,.one,.one]) [.code (Tryd.f18.body.getD .skip),.top Tryd.f18]).strip=tree_eright:=by kernel_rfl
set_option maxRecDepth 100000 in
set_option maxHeartbeats 4000000 in
theorem right_any(ls:List Lim)(ss:List Int)(person:Int)(A:Option Addr)(n c:Nat)(B:Option Addr)(m d:Nat)(w:World)(hr:Rd w 9 A n (lmL ls))(hc:n≤c)(hr2:Rd w 1 B m (inL ss))(hd:m≤d)(hl:n≤1000000000)(hm:m≤1000000000)(hf:fitLm ls):Calls Tryd.prog 18 #[.agg #[.slice A n c,.slice B m d],.int .i64 person] w fun e w'=>e=.returned (.bool (decide (rightP ls ss person)))∧Below w.heap.size w w':=by
 refine SX.calls_of_run (C:=cxM7 (KW w) (fun _ _ _=>False)) (G:=cfgRight) (args:=args_eright) (sh:=[.one,.one,.one]) (ρ:=[.slice A n c,.slice B m d,.int .i64 person]) 100000 tree_eright (okM7 _ _) Tryd.func18 rfl (run_eright _ _) (by kernel_rfl) (by kernel_rfl) (by kernel_rfl) ?_ ?_
 ·exact fun W hW v z xs h=>h W hW
 have hB:=SX.rd_some hr2
 have hln:ls.length=n:=by have:=hr.1;rw [lmL_len]at this;omega
 have hlm:ss.length=m:=by have:=hr2.1;rw [inL_len]at this;omega
 have hK1:KW w (.slice A n c) 9 (lmL ls):=fun W hW=>⟨hr.same0 hW,hc⟩
 have hK2:KW w (.slice B m d) 1 (inL ss):=fun W hW=>⟨hr2.same0 hW,hd⟩
 unfold tree_eright
 refine SX.D (.int .i64 (n:Int)) ?_
 refine SX.E (.bool (decide (1≤n))) (fun α=>cast (by kernel_rfl) (geq_nat n 1)) ?_
 refine SX.B (decide (1≤n)) (fun g1=>?_) (fun g1=>?_)
 case refine_2 =>
  have g1:¬ 1≤n:=by simpa using g1
  rw [decide_eq_false fun h:rightP ls ss person=>g1 (by have:=h.1;omega)]
  exact SX.F (.bool false) rfl
 have g1:1≤n:=by simpa using g1
 refine SX.D (.int .i64 (n:Int)) ?_
 refine SX.D (.bool (decide ((n:Int)≤64))) ?_
 refine SX.B (decide ((n:Int)≤64)) (fun g2=>?_) (fun g2=>?_)
 case refine_2 =>
  have g2:¬ (n:Int)≤64:=by simpa using g2
  rw [decide_eq_false fun h:rightP ls ss person=>g2 (by have:=h.2.1;omega)]
  exact SX.F (.bool false) rfl
 have g2:(n:Int)≤64:=by simpa using g2
 refine SX.D (.int .i64 (m:Int)) ?_
 refine SX.D (.int .i64 (n:Int)) ?_
 refine SX.D (.bool (decide ((m:Int)=(n:Int)))) ?_
 refine SX.B (decide ((m:Int)=(n:Int))) (fun g3=>?_) (fun g3=>?_)
 case refine_2 =>
  have g3:¬ (m:Int)=(n:Int):=by simpa using g3
  rw [decide_eq_false fun h:rightP ls ss person=>g3 (by have:=h.2.2.1;omega)]
  exact SX.F (.bool false) rfl
 have g3:(m:Int)=(n:Int):=of_decide_eq_true g3
 refine SX.E (.bool (decide (ofP ls person))) (fun α=>⟨[⟨.slice A n c,9,lmL ls⟩,⟨.int .i64 person,0,[]⟩],⟨by kernel_rfl,rfl,cast (by kernel_rfl) hK1,by kernel_rfl,by kernel_rfl,trivial⟩,⟨rfl,_,ls,person,rfl,by omega,hf,rfl⟩,SX.noAli rfl⟩) ?_
 refine SX.B (decide (ofP ls person)) (fun g4=>?_) (fun g4=>?_)
 case refine_2 =>
  rw [decide_eq_false fun h:rightP ls ss person=>(of_decide_eq_false g4) h.2.2.2.1]
  exact SX.F (.bool false) rfl
 have g4:ofP ls person:=of_decide_eq_true g4
 refine SX.D (.int .i64 (m:Int)) ?_
 refine SX.VC_loop (fun xs=>∃ k:Nat,k≤m∧xs=[.int .i64 (k:Int)]∧∀ s∈ss.take k,saltP s) (fun xs=>match xs with|.int _ k::_=>m-k.toNat|_=>0) (fun α=>⟨0,by omega,by kernel_rfl,by simp⟩) ?_
 rintro xs-⟨k,hk,rfl,hI⟩
 refine SX.E (.bool (decide (k<m))) (fun α=>cast (by kernel_rfl) (lss_nat k m)) ?_
 refine SX.B (decide (k<m)) (fun h1=>?_) (fun h1=>?_)
 ·have h1:k<m:=by simpa using h1
  obtain⟨s,hs⟩:∃ s,ss[k]?=some s:=⟨_,List.getElem?_eq_getElem (by omega)⟩
  refine SX.E (.bool true) (fun α=>SX.extBnd (A:=B) (n:=m) (c:=d) (j:=k) hB (by kernel_rfl) (by kernel_rfl) h1) ?_
  refine SX.E (.int .i64 s) (fun α=>SX.extElem (o:=0) (v:=.int .i64 s) (f:=fun k:Int=>[Value.int .i64 k]) (l:=ss) (A:=B) (n:=m) (c:=d) (j:=k) (z:=s) (fun _=>rfl) hB (by kernel_rfl) (by kernel_rfl) h1 (cast (by kernel_rfl) hK2) hs (by decide) (by kernel_rfl)) ?_
  refine SX.D (.bool (decide (s≥0))) ?_
  refine SX.B (decide (s≥0)) (fun h2=>?_) (fun h2=>?_)
  ·have h2:s≥0:=by simpa using h2
   refine SX.D (.bool (decide (s≤1099511627776))) ?_
   refine SX.D (.bool (!decide (s≤1099511627776))) ?_
   refine SX.B (!decide (s≤1099511627776)) (fun h3=>?_) (fun h3=>?_)
   ·have h3:¬ s≤1099511627776:=by simpa using h3
    refine SX.E (.bool (decide (0≤k))) (fun α=>cast (by kernel_rfl) (geq_nat k 0)) ?_
    refine SX.D (.bool (!decide (0≤k))) ?_
    rw [decide_eq_false fun h:rightP ls ss person=>h3 (h.2.2.2.2 s (List.mem_of_getElem? hs)).2]
    exact SX.F (.bool (!decide (0≤k))) (by simp)
   have h3:s≤1099511627776:=by simpa using h3
   refine SX.E (.int .i64 ((k+1:Nat):Int)) (fun α=>cast (by kernel_rfl) (i_add' (a:=k) (b:=1) (d:=k+1) rfl (by omega))) ?_
   exact VC_again2 rfl (fun α=>⟨k+1,by omega,by kernel_rfl,take1 hs hI ⟨h2,h3⟩⟩) (fun α=>cast (by kernel_rfl) (show m-((k+1:Nat):Int).toNat<m-(k:Int).toNat by omega))
  have h2:¬ s≥0:=by simpa using h2
  refine SX.E (.bool (decide (0≤k))) (fun α=>cast (by kernel_rfl) (geq_nat k 0)) ?_
  refine SX.D (.bool (!decide (0≤k))) ?_
  rw [decide_eq_false fun h:rightP ls ss person=>h2 (h.2.2.2.2 s (List.mem_of_getElem? hs)).1]
  exact SX.F (.bool (!decide (0≤k))) (by simp)
 have h1:¬ k<m:=by simpa using h1
 have hyes:rightP ls ss person:=⟨by omega,by omega,by omega,g4,by rw [List.take_of_length_le (by omega)]at hI;exact hI⟩
 rw [decide_eq_true hyes]
 exact SX.F (.bool true) rfl
noncomputable instance (s:Int):Decidable (saltP s):=Classical.propDecidable _
theorem w8_map_inj:∀ a b:List W8,a.map w8=b.map w8→a=b:=fun a b h=>(List.map_inj_right fun x y e=>by
 have:(x.toNat:Int)=(y.toNat:Int):=by simpa [w8]using e
 exact BitVec.eq_of_toNat_eq (by omega)).1 h
def tree_esalt:SX.Tree :=
(.df (.bin .geq 3) [(.q 0),(.i 0)] .one
(.br 1 []
(.df (.bin .leq 3) [(.q 0),(.i 1099511627776)] .one
(.ret (.q 2) [] []))
(.ret (.k (.bool false)) [] [])))
def args_esalt:List SX.V:=[.x 0 []]
set_option maxRecDepth 100000 in
theorem run_esalt(K A:Value→Nat→List Value→Prop):(SX.run (cxL0 K A) ⟨fun f=>true,[],0,100⟩ 100000 0 (SX.door 38 Tryd.f38 args_esalt [.one]) [.code (Tryd.f38.body.getD .skip),.top Tryd.f38]).strip=tree_esalt:=by kernel_rfl
set_option maxRecDepth 100000 in
theorem salt_any(s:Int)(w:World):Calls Tryd.prog 38 #[.int .i64 s] w fun e w'=>e=.returned (.bool (decide (saltP s)))∧Below w.heap.size w w':=by
 refine SX.calls_of_run (C:=cxL0 (fun _ _ _=>False) (fun _ _ _=>False)) (G:=⟨fun f=>true,[],0,100⟩) (args:=args_esalt) (sh:=[.one]) (ρ:=[.int .i64 s]) 100000 tree_esalt (cxL0_ok _ _) Tryd.func38 rfl (run_esalt _ _) (by kernel_rfl) (by kernel_rfl) (by kernel_rfl) (fun _ _ _ _ _ h=>h.elim) ?_
 unfold tree_esalt
 refine SX.D (.bool (decide (s≥0))) ?_
 refine SX.B (decide (s≥0)) (fun h1=>?_) (fun h1=>?_)
 ·have h1:s≥0:=by simpa using h1
  refine SX.D (.bool (decide (s≤1099511627776))) ?_
  have e:decide (saltP s)=decide (s≤1099511627776):=by
   by_cases h:s≤1099511627776
   ·have h2:saltP s:=⟨h1,h⟩
    rw [decide_eq_true h,decide_eq_true h2]
   rw [decide_eq_false h,decide_eq_false fun h2:saltP s=>h h2.2]
  rw [e]
  exact SX.F (.bool (decide (s≤1099511627776))) rfl
 have h1:¬ s≥0:=by simpa using h1
 rw [decide_eq_false fun h2:saltP s=>h1 h2.1]
 exact SX.F (.bool false) rfl
def fitsP(person count:Int)(root:Dg)(k s:Int)(x:Lim)(p:List Dg):Prop:=1≤count∧count≤64∧0≤k∧k<count∧saltP s∧x.person=person∧∃ d,climbE count.toNat k.toNat (dgH (lfX (encL (leafF k x s)))) p=some d∧dgL d=dgL root
noncomputable instance (person count:Int) (root:Dg) (k s:Int) (x:Lim) (p:List Dg):Decidable (fitsP person count root k s x p):=Classical.propDecidable _
def shpF:FuncId→Option SX.Sh:=fun f=>if f∈[12,46,18,38,16,15]then some .one else if f∈[36,17]then some (.sl 1)else if f=39 then some (.tp [.ag 32,.one])else if f=19 then some (.ag 32)else if f=25 then some (.tp [.sl 32,.one])else if f=21 then some (.tp [.ag 2,.one])else none
def RM8(K:Value→Nat→List Value→Prop)(f:FuncId)(xs:List SX.Arg)(v:Value):Prop :=
 (f=38∧∃ s:Int,xs=[⟨.int .i64 s,0,[]⟩]∧v=.bool (decide (saltP s))) ∨
 (f=36∧∃ (k s:Int) (x:Lim),xs=[⟨.int .i64 k,0,[]⟩,⟨valLm x,0,[]⟩,⟨.int .i64 s,0,[]⟩]∧(∀ z∈leafF k x s,z.fits)∧v=.agg ((encL (leafF k x s)).flatMap c8).toArray) ∨
 (f=39∧LaidK K∧∃ (n i:Nat) (u u2:Value) (X:List W8) (p:List Dg),xs=[⟨.int .i64 (n:Int),0,[]⟩,⟨.int .i64 (i:Int),0,[]⟩,⟨u,1,X.flatMap c8⟩,⟨u2,32,dgs p⟩]∧i<n∧n≤65536∧X≠[]∧X.length≤17592186044416∧v=climbV (climbE n i (dgH (lfX X)) p))
noncomputable def cxM8(K A:Value→Nat→List Value→Prop):SX.Cx:={ P:=Tryd.prog,R:=RM8,shp:=shpF,K:=K,A:=A,trm:=true }
theorem okM8(K A:Value→Nat→List Value→Prop):(cxM8 K A).Ok:=by
 refine SX.Cx.ok_of (fun _=>rfl) ?_
 intro K f xs v W hR hrd hKf
 rcases hR with ⟨rfl,s,rfl,rfl⟩|⟨rfl,k,s,x,rfl,hf,rfl⟩|⟨rfl,hL,n,i,u,u2,X,p,rfl,hi,hn,hX,hXl,rfl⟩
 ·exact(salt_any s W).mono fun e w' h=>SX.plainOk rfl h
 ·exact Calls.mono (leaf_any k s x W hf) fun e w' h=>SX.SlRet.ok1 rfl h
 obtain⟨A,a,e,rfl,h1,h2⟩:=arg_sl (hrd ⟨u,1,X.flatMap c8⟩ (by simp))
 obtain⟨B,m,c,rfl,h3,h4⟩:=arg_sl (hrd ⟨u2,32,dgs p⟩ (by simp))
 exact(climb_any n i X p A a e B m c W hi hn h1 h2 hX hXl h3 h4 (laid_of hL hKf)).mono fun e w' h=>SX.plainOk rfl h
def tree_efits:SX.Tree :=
(.df (.bin .lss 3) [(.x 0 [1]),(.i 1)] .one
(.br 3 []
(.ret (.k (.bool false)) [] [])
(.df (.bin .gtr 3) [(.x 0 [1]),(.i 64)] .one
(.br 4 []
(.ret (.k (.bool false)) [] [])
(.df (.bin .lss 3) [(.x 1 [0]),(.i 0)] .one
(.br 5 []
(.ret (.k (.bool false)) [] [])
(.df (.bin .geq 3) [(.x 1 [0]),(.x 0 [1])] .one
(.br 6 []
(.ret (.k (.bool false)) [] [])
(.df (.call 38 [.no]) [(.x 1 [1])] .one
(.df .not [(.q 7)] .one
(.br 8 []
(.ret (.k (.bool false)) [] [])
(.df (.bin .neq 3) [(.x 1 [3]),(.x 0 [0])] .one
(.br 9 []
(.ret (.k (.bool false)) [] [])
(.df (.call 36 [.no,.no,.no]) [(.x 1 [0]),(.a (SX.Y 1 2 9)),(.x 1 [1])] (.sl 1)
(.df (.call 39 [.no,.no,(.row 1 [(.q 10)]),(.ext 32)]) [(.x 0 [1]),(.x 1 [0]),(.row 12),(.q 2)] (.tp [(.ag 32),.one])
(.df (.bin .eql 44) [(.x 11 [1]),(.i 0)] .one
(.br 12 []
(.df (.eqr false 32 [(.i .u8),(.i .u8),(.i .u8),(.i .u8),(.i .u8),(.i .u8),(.i .u8),(.i .u8),(.i .u8),(.i .u8),(.i .u8),(.i .u8),(.i .u8),(.i .u8),(.i .u8),(.i .u8),(.i .u8),(.i .u8),(.i .u8),(.i .u8),(.i .u8),(.i .u8),(.i .u8),(.i .u8),(.i .u8),(.i .u8),(.i .u8),(.i .u8),(.i .u8),(.i .u8),(.i .u8),(.i .u8)]) [(.x 11 [0,0]),(.x 11 [0,1]),(.x 11 [0,2]),(.x 11 [0,3]),(.x 11 [0,4]),(.x 11 [0,5]),(.x 11 [0,6]),(.x 11 [0,7]),(.x 11 [0,8]),(.x 11 [0,9]),(.x 11 [0,10]),(.x 11 [0,11]),(.x 11 [0,12]),(.x 11 [0,13]),(.x 11 [0,14]),(.x 11 [0,15]),(.x 11 [0,16]),(.x 11 [0,17]),(.x 11 [0,18]),(.x 11 [0,19]),(.x 11 [0,20]),(.x 11 [0,21]),(.x 11 [0,22]),(.x 11 [0,23]),(.x 11 [0,24]),(.x 11 [0,25]),(.x 11 [0,26]),(.x 11 [0,27]),(.x 11 [0,28]),(.x 11 [0,29]),(.x 11 [0,30]),(.x 11 [0,31]),(.x 0 [2]),(.x 0 [3]),(.x 0 [4]),(.x 0 [5]),(.x 0 [6]),(.x 0 [7]),(.x 0 [8]),(.x 0 [9]),(.x 0 [10]),(.x 0 [11]),(.x 0 [12]),(.x 0 [13]),(.x 0 [14]),(.x 0 [15]),(.x 0 [16]),(.x 0 [17]),(.x 0 [18]),(.x 0 [19]),(.x 0 [20]),(.x 0 [21]),(.x 0 [22]),(.x 0 [23]),(.x 0 [24]),(.x 0 [25]),(.x 0 [26]),(.x 0 [27]),(.x 0 [28]),(.x 0 [29]),(.x 0 [30]),(.x 0 [31]),(.x 0 [32]),(.x 0 [33])] .one
(.ret (.q 13) [] []))
(.ret (.k (.bool false)) [] []))))))))))))))))))
def args_efits:List SX.V:=[.a ([.x 0 [0],.x 0 [1]]++((List.range 32).map fun j=>.x 0 [2+j])++[.x 0 [34],.x 0 [35]]),.a ([.x 1 [0],.x 1 [1]]++((List.range 9).map fun j=>.x 1 [2+j])++[.x 2 []])]
set_option maxRecDepth 100000 in
theorem run_efits(K A:Value→Nat→List Value→Prop):(SX.run (cxM8 K A) ⟨fun f=>true,[],0,100⟩ 100000 0 (SX.door 15 Tryd.f15 args_efits [.ag 36,.ag 11,.one]) [.code (Tryd.f15.body.getD .skip),.top Tryd.f15]).strip=tree_efits:=by kernel_rfl
def leafV(k s:Int)(x:Lim)(hdr:Value):Value:=.agg ([Value.int .i64 k,Value.int .i64 s]++cellsLm x++[hdr]).toArray
set_option maxRecDepth 100000 in
set_option maxHeartbeats 4000000 in
theorem fits_any(person count E S:Int)(root:Dg)(k s:Int)(x:Lim)(p:List Dg)(B:Option Addr)(m c:Nat)(w:World)(hr:Rd w 32 B m (dgs p))(hc:m≤c)(hf:∀ z∈leafF k x s,z.fits)(hlaid:Laid w):Calls Tryd.prog 15 #[sealV person count root E S,leafV k s x (.slice B m c)] w fun e w'=>e=.returned (.bool (decide (fitsP person count root k s x p)))∧Below w.heap.size w w':=by
 refine SX.calls_of_run (C:=cxM8 (KW w) (fun _ _ _=>False)) (G:=⟨fun f=>true,[],0,100⟩) (args:=args_efits) (sh:=[.ag 36,.ag 11,.one]) (ρ:=[sealV person count root E S,.agg ([Value.int .i64 k,Value.int .i64 s]++cellsLm x).toArray,.slice B m c]) 100000 tree_efits (okM8 _ _) Tryd.func15 rfl (run_efits _ _) (by kernel_rfl) (by kernel_rfl) (by kernel_rfl) ?_ ?_
 ·exact fun W hW v z xs h=>h W hW
 have hL:LaidK (KW w):=KW_laid hlaid
 have hK1:KW w (.slice B m c) 32 (dgs p):=fun W hW=>⟨hr.same0 hW,hc⟩
 unfold tree_efits
 refine SX.D (.bool (decide (count<1))) ?_
 refine SX.B (decide (count<1)) (fun g=>?_) (fun g1=>?_)
 ·rw [decide_eq_false fun h:fitsP person count root k s x p=>absurd (of_decide_eq_true g) (by have:=h.1;omega)]
  exact SX.F (.bool false) rfl
 have g1:=of_decide_eq_false g1
 refine SX.D (.bool (decide (count>64))) ?_
 refine SX.B (decide (count>64)) (fun g=>?_) (fun g2=>?_)
 ·rw [decide_eq_false fun h:fitsP person count root k s x p=>absurd (of_decide_eq_true g) (by have:=h.2.1;omega)]
  exact SX.F (.bool false) rfl
 have g2:=of_decide_eq_false g2
 refine SX.D (.bool (decide (k<0))) ?_
 refine SX.B (decide (k<0)) (fun g=>?_) (fun g3=>?_)
 ·rw [decide_eq_false fun h:fitsP person count root k s x p=>absurd (of_decide_eq_true g) (by have:=h.2.2.1;omega)]
  exact SX.F (.bool false) rfl
 have g3:=of_decide_eq_false g3
 refine SX.D (.bool (decide (k≥count))) ?_
 refine SX.B (decide (k≥count)) (fun g=>?_) (fun g4=>?_)
 ·rw [decide_eq_false fun h:fitsP person count root k s x p=>absurd (of_decide_eq_true g) (by have:=h.2.2.2.1;omega)]
  exact SX.F (.bool false) rfl
 have g4:=of_decide_eq_false g4
 refine SX.E (.bool (decide (saltP s))) (fun α=>⟨[⟨.int .i64 s,0,[]⟩],⟨by kernel_rfl,by kernel_rfl,trivial⟩,.inl ⟨rfl,s,rfl,rfl⟩,SX.noAli rfl⟩) ?_
 refine SX.D (.bool (!decide (saltP s))) ?_
 refine SX.B (!decide (saltP s)) (fun g=>?_) (fun g5=>?_)
 ·have g:¬ saltP s:=by simpa using g
  rw [decide_eq_false fun h:fitsP person count root k s x p=>g h.2.2.2.2.1]
  exact SX.F (.bool false) rfl
 have g5:saltP s:=by simpa using g5
 refine SX.D (.bool ((x.person:Int) != person)) ?_
 refine SX.B ((x.person:Int) != person) (fun g=>?_) (fun g6=>?_)
 ·have g:x.person≠person:=by simpa using g
  rw [decide_eq_false fun h:fitsP person count root k s x p=>g h.2.2.2.2.2.1]
  exact SX.F (.bool false) rfl
 have g6:x.person=person:=by simpa using g6
 obtain⟨n,rfl⟩:∃ n:Nat,count=n:=⟨count.toNat,by omega⟩
 obtain⟨i,rfl⟩:∃ i:Nat,k=i:=⟨k.toNat,by omega⟩
 have hlt:=encL_lt hf (by simp [leafF])
 have hne:encL (leafF (i:Int) x s)≠[]:=List.cons_ne_nil _ _
 have hfp:fitsP person (n:Int) root (i:Int) s x p↔∃ d,climbE n i (dgH (lfX (encL (leafF (i:Int) x s)))) p=some d∧dgL d=dgL root:=⟨fun h=>h.2.2.2.2.2.2,fun h=>⟨by omega,by omega,by omega,by omega,g5,g6,h⟩⟩
 refine SX.VC_df (.agg ((encL (leafF (i:Int) x s)).flatMap c8).toArray) (fun α=>⟨[⟨.int .i64 (i:Int),0,[]⟩,⟨valLm x,0,[]⟩,⟨.int .i64 s,0,[]⟩],⟨by kernel_rfl,by kernel_rfl,by kernel_rfl,by kernel_rfl,by kernel_rfl,by kernel_rfl,trivial⟩,.inr (.inl ⟨rfl,_,s,x,rfl,hf,rfl⟩),SX.noAli rfl⟩) (encs_fit _) ?_
 generalize encL (leafF (i:Int) x s)=X at *
 refine SX.VC_df (climbV (climbE n i (dgH (lfX X)) p)) (fun α=>⟨[⟨.int .i64 (n:Int),0,[]⟩,⟨.int .i64 (i:Int),0,[]⟩,⟨(α 12).h,1,X.flatMap c8⟩,⟨.slice B m c,32,dgs p⟩],⟨by kernel_rfl,by kernel_rfl,by kernel_rfl,by kernel_rfl,Eq.trans (SX.argNil (α 12).h 1 (X.flatMap c8)) (by kernel_rfl),rfl,rfl,cast (by kernel_rfl) hK1,trivial⟩,.inr (.inr ⟨rfl,hL,n,i,_,_,X,p,rfl,by omega,by omega,hne,by omega,rfl⟩),SX.noAli rfl⟩) (by cases climbE n i (dgH (lfX X)) p<;>rfl) ?_
 generalize climbE n i (dgH (lfX X)) p=o at *
 cases o with
 | none =>
  refine SX.D (.bool false) ?_
  refine SX.B false (fun h=>nomatch h) (fun _=>?_)
  rw [decide_eq_false fun h:fitsP person (n:Int) root (i:Int) s x p=>by obtain⟨d,h,_⟩:=hfp.1 h;cases h]
  exact SX.F (.bool false) rfl
 | some d =>
  refine SX.D (.bool true) ?_
  refine SX.B true (fun _=>?_) (fun h=>nomatch h)
  refine SX.E (.bool (false ^^ decide (dgL d=dgL root))) (fun α=>SX.eqr_rel (f:=(fun l:List W8=>l.map w8)) w8_map_inj (y:=dgL d) (z:=dgL root) (by kernel_rfl) (by kernel_rfl) (by kernel_rfl)) ?_
  have e:decide (fitsP person (n:Int) root (i:Int) s x p)=(false ^^ decide (dgL d=dgL root)):=by
   by_cases h:dgL d=dgL root
   ·have h2:fitsP person (n:Int) root (i:Int) s x p:=hfp.2 ⟨d,rfl,h⟩
    rw [decide_eq_true h,decide_eq_true h2];rfl
   rw [decide_eq_false h,decide_eq_false fun h2:fitsP person (n:Int) root (i:Int) s x p=>h (by obtain⟨d2,h3,h4⟩:=hfp.1 h2;cases h3;exact h4)];rfl
  rw [e]
  exact SX.F (.bool (false ^^ decide (dgL d=dgL root))) rfl
theorem sb_bt(l:List W8):sb (bt l)=l:=by
 unfold sb bt
 simp only [List.map_map]
 exact(List.map_congr_left fun x _=>rfl).trans (List.map_id l)
theorem bt_size(l:List W8):(bt l).size=l.length:=by rw [← sb_len,sb_bt]
theorem sign_len{person count:Int}{root:Dg}(hf:∀ z∈signF person count root,z.fits):(encL (signF person count root)).length≤1048576:=by
 have h1:=hf (.n person) (by simp [signF])
 have h2:=hf (.n count) (by simp [signF])
 have a1:=numB_len 9 (unsN person) (by have:=unsN_lt h1.1 h1.2;omega)
 have a2:=numB_len 9 (unsN count) (by have:=unsN_lt h2.1 h2.2;omega)
 have a3:=numB_len 9 (signF person count root).length (by simp [signF])
 have e1:(bt (dgL root)).size=32:=bt_size _
 have a4:=numB_len 9 32 (by decide)
 have a5:=numB_len 9 limitsT.size (by decide)
 have e2:limitsT.size=6:=rfl
 have e3:(sb limitsT).length=6:=by rw [sb_len];rfl
 have e4:(sb (bt (dgL root))).length=32:=by rw [sb_len,e1]
 unfold encL
 simp only [LL]
 simp only [signF,List.flatMap_cons,List.flatMap_nil,List.length_append,List.length_nil,encF,List.length_cons,e1,e3,e4]at a3 ⊢
 omega
def checkP(key person count E S:Int)(root:Dg)(k s:Int)(x:Lim)(p:List Dg):Prop:=fitsP person count root k s x p∧verV key (bt (encL (signF person count root))) E S=true
noncomputable instance (key person count E S:Int) (root:Dg) (k s:Int) (x:Lim) (p:List Dg):Decidable (checkP key person count E S root k s x p):=Classical.propDecidable _
def RM9(K:Value→Nat→List Value→Prop)(f:FuncId)(xs:List SX.Arg)(v:Value):Prop :=
 (f=15∧LaidK K∧∃ (person count E S:Int) (root:Dg) (k s:Int) (x:Lim) (p:List Dg) (hdr:Value),xs=[⟨sealV person count root E S,0,[]⟩,⟨leafV k s x hdr,0,[]⟩]∧K hdr 32 (dgs p)∧(∀ z∈leafF k x s,z.fits)∧v=.bool (decide (fitsP person count root k s x p))) ∨
 (f=17∧∃ (person count E S:Int) (root:Dg),xs=[⟨sealV person count root E S,0,[]⟩]∧(∀ z∈signF person count root,z.fits)∧v=.agg ((encL (signF person count root)).flatMap c8).toArray) ∨
 (f=16∧LaidK K∧∃ (key:Int) (u:Value) (X:List W8) (E S:Int),xs=[⟨.int .i64 key,0,[]⟩,⟨u,1,X.flatMap c8⟩,⟨.agg #[.int .i64 E,.int .i64 S],0,[]⟩]∧X.length≤1048576∧v=.bool (verV key (bt X) E S))
noncomputable def cxM9(K A:Value→Nat→List Value→Prop):SX.Cx:={ P:=Tryd.prog,R:=RM9,shp:=shpF,K:=K,A:=A,trm:=true }
theorem okM9(K A:Value→Nat→List Value→Prop):(cxM9 K A).Ok:=by
 refine SX.Cx.ok_of (fun _=>rfl) ?_
 intro K f xs v W hR hrd hKf
 rcases hR with ⟨rfl,hL,person,count,E,S,root,k,s,x,p,hdr,rfl,hk,hf,rfl⟩|⟨rfl,person,count,E,S,root,rfl,hf,rfl⟩|⟨rfl,hL,key,u,X,E,S,rfl,hX,rfl⟩
 ·obtain⟨B,m,c,rfl,h3,h4⟩:=arg_sl (hKf _ _ _ hk)
  exact(fits_any person count E S root k s x p B m c W h3 h4 hf (laid_of hL hKf)).mono fun e w' h=>SX.plainOk rfl h
 ·exact Calls.mono (signed_any person count E S root W hf) fun e w' h=>SX.SlRet.ok1 rfl h
 obtain⟨A,a,e,rfl,h1,h2⟩:=arg_sl (hrd ⟨u,1,X.flatMap c8⟩ (by simp))
 exact(verify_any key (bt X) A a e E S W (by rw [sb_bt];exact h1) h2 (by rw [bt_size];exact hX) (laid_of hL hKf)).mono fun e w' h=>SX.plainOk rfl h
def tree_echeck:SX.Tree :=
(.df (.call 15 [.no,.no]) [(.a (SX.Y 0 0 36)),(.a (SX.Y 1 0 11++[(.q 2)]))] .one
(.br 4 []
(.df (.call 17 [.no]) [(.a (SX.Y 0 0 36))] (.sl 1)
(.df (.call 16 [.no,(.row 1 [(.q 5)]),.no]) [(.q 3),(.row 8),(.a [(.x 0 [34]),(.x 0 [35])])] .one
(.ret (.q 6) [] [])))
(.ret (.k (.bool false)) [] [])))
def args_echeck:List SX.V:=[.x 3 [],.a ([.x 0 [0],.x 0 [1]]++((List.range 32).map fun j=>.x 0 [2+j])++[.x 0 [34],.x 0 [35]]),.a ([.x 1 [0],.x 1 [1]]++((List.range 9).map fun j=>.x 1 [2+j])++[.x 2 []])]
set_option maxRecDepth 100000 in
theorem run_echeck(K A:Value→Nat→List Value→Prop):(SX.run (cxM9 K A) ⟨fun f=>true,[],0,100⟩ 100000 0 (SX.door 6 Tryd.f6 args_echeck [.ag 36,.ag 11,.one,.one]) [.code (Tryd.f6.body.getD .skip),.top Tryd.f6]).strip=tree_echeck:=by kernel_rfl
set_option maxRecDepth 100000 in
set_option maxHeartbeats 4000000 in
theorem check_any(key person count E S:Int)(root:Dg)(k s:Int)(x:Lim)(p:List Dg)(B:Option Addr)(m c:Nat)(w:World)(hr:Rd w 32 B m (dgs p))(hc:m≤c)(hf:∀ z∈leafF k x s,z.fits)(hf2:∀ z∈signF person count root,z.fits)(hlaid:Laid w):Calls Tryd.prog 6 #[.int .i64 key,sealV person count root E S,leafV k s x (.slice B m c)] w fun e w'=>e=.returned (.bool (decide (checkP key person count E S root k s x p)))∧Below w.heap.size w w':=by
 refine SX.calls_of_run (C:=cxM9 (KW w) (fun _ _ _=>False)) (G:=⟨fun f=>true,[],0,100⟩) (args:=args_echeck) (sh:=[.ag 36,.ag 11,.one,.one]) (ρ:=[sealV person count root E S,.agg ([Value.int .i64 k,Value.int .i64 s]++cellsLm x).toArray,.slice B m c,.int .i64 key]) 100000 tree_echeck (okM9 _ _) Tryd.func6 rfl (run_echeck _ _) (by kernel_rfl) (by kernel_rfl) (by kernel_rfl) ?_ ?_
 ·exact fun W hW v z xs h=>h W hW
 have hL:LaidK (KW w):=KW_laid hlaid
 have hK1:KW w (.slice B m c) 32 (dgs p):=fun W hW=>⟨hr.same0 hW,hc⟩
 have hsl:=sign_len hf2
 unfold tree_echeck
 refine SX.E (.bool (decide (fitsP person count root k s x p))) (fun α=>⟨[⟨sealV person count root E S,0,[]⟩,⟨leafV k s x (.slice B m c),0,[]⟩],⟨by kernel_rfl,by kernel_rfl,by kernel_rfl,by kernel_rfl,trivial⟩,.inl ⟨rfl,hL,person,count,E,S,root,k,s,x,p,_,rfl,hK1,hf,rfl⟩,SX.noAli rfl⟩) ?_
 refine SX.B (decide (fitsP person count root k s x p)) (fun g=>?_) (fun g=>?_)
 ·have g:=of_decide_eq_true g
  refine SX.VC_df (.agg ((encL (signF person count root)).flatMap c8).toArray) (fun α=>⟨[⟨sealV person count root E S,0,[]⟩],⟨by kernel_rfl,by kernel_rfl,trivial⟩,.inr (.inl ⟨rfl,person,count,E,S,root,rfl,hf2,rfl⟩),SX.noAli rfl⟩) (encs_fit _) ?_
  have e:decide (checkP key person count E S root k s x p)=verV key (bt (encL (signF person count root))) E S:=by
   cases hv:verV key (bt (encL (signF person count root))) E S with
   | true =>
    have h2:checkP key person count E S root k s x p:=⟨g,hv⟩
    exact decide_eq_true h2
   | false=>exact decide_eq_false fun h2:checkP key person count E S root k s x p=>by have:=h2.2;rw [hv]at this;cases this
  rw [e]
  generalize encL (signF person count root)=X at *
  refine SX.E (.bool (verV key (bt X) E S)) (fun α=>⟨[⟨.int .i64 key,0,[]⟩,⟨(α 8).h,1,X.flatMap c8⟩,⟨.agg #[.int .i64 E,.int .i64 S],0,[]⟩],⟨by kernel_rfl,by kernel_rfl,Eq.trans (SX.argNil (α 8).h 1 (X.flatMap c8)) (by kernel_rfl),by kernel_rfl,by kernel_rfl,trivial⟩,.inr (.inr ⟨rfl,hL,key,_,X,E,S,rfl,hsl,rfl⟩),SX.noAli rfl⟩) ?_
  exact SX.F (.bool (verV key (bt X) E S)) rfl
 have g:=of_decide_eq_false g
 rw [decide_eq_false fun h2:checkP key person count E S root k s x p=>g h2.1]
 exact SX.F (.bool false) rfl
def psL(hs:List Hd3)(ls:List Lim)(ss:List Int):List Pb:=hs.mapIdx fun j h=>(h3V h,txtE ls ss j)
theorem psL_hd(hs:List Hd3)(ls:List Lim)(ss:List Int):(psL hs ls ss).map (·.1)=hs.flatMap cellsH3:=by
 unfold psL
 have e:hs.flatMap cellsH3=hs.map h3V:=by
  induction hs with
  | nil=>rfl
  | cons a r ih=>rw [List.flatMap_cons,List.map_cons,ih];rfl
 rw [e]
 apply List.ext_getElem
 ·simp
 intro i h1 h2;simp
theorem psL_len(hs:List Hd3)(ls:List Lim)(ss:List Int):(psL hs ls ss).length=hs.length:=by unfold psL;simp
def lvD(ls:List Lim)(ss:List Int):List Dg:=(List.range ls.length).map fun j=>dgH (lfX (txtE ls ss j))
theorem psL_lfD{hs:List Hd3}{ls:List Lim}{ss:List Int}(h:hs.length=ls.length):(psL hs ls ss).map lfD=lvD ls ss:=by
 unfold psL lvD
 apply List.ext_getElem
 ·simp [h]
 intro i h1 h2;simp [lfD]
theorem psL_mem{hs:List Hd3}{ls:List Lim}{ss:List Int}{p:Pb}(h:p∈psL hs ls ss):∃ j t,hs[j]?=some t∧p=(h3V t,txtE ls ss j):=by
 obtain⟨j,hj,rfl⟩:=List.getElem_of_mem h
 unfold psL at hj ⊢
 simp only [List.length_mapIdx]at hj
 exact⟨j,hs[j],List.getElem?_eq_getElem hj,by simp⟩
def lvN(hdr:Value)(hs:List Hd3)(ls:List Lim)(ss:List Int):List SX.Arg:=⟨hdr,1,(psL hs ls ss).map (·.1)⟩::(psL hs ls ss).map fun p=>⟨p.1,1,p.2.flatMap c8⟩
def RnV(K:Value→Nat→List Value→Prop)(f:FuncId)(xs:List SX.Arg)(Q:Value→List SX.Arg→Prop):Prop:=f=20∧∃ (u1 u2:Value) (ls:List Lim) (ss:List Int),xs=[⟨.agg #[u1,u2],0,[]⟩]∧K u1 9 (lmL ls)∧K u2 1 (inL ss)∧ls.length=ss.length∧ls.length≤1000000∧(∀ i,i<ls.length→∀ z∈leafF (i:Int) (ls.getD i default) (ss.getD i 0),z.fits)∧∀ A n c hs,hs.length=ls.length→Q (.slice A n c) (lvN (.slice A n c) hs ls ss)
theorem rnV_ok{K:Value→Nat→List Value→Prop}{f:FuncId}{xs:List SX.Arg}{Q:Value→List SX.Arg→Prop}{W:World}(h:RnV K f xs Q)(hK:∀ s sz cells,K s sz cells→SX.Arg.rd W ⟨s,sz,cells⟩):Calls Tryd.prog f (xs.map SX.Arg.v).toArray W fun e W'=>Below W.heap.size W W'∧∃ v N,e=.returned v∧SX.Sh.one.fit v=true∧Q v N∧∀ y∈N,y.rd W'∧SX.FrsB W.heap.size y.v:=by
 obtain⟨rfl,u1,u2,ls,ss,rfl,k1,k2,hnm,hl,hf,hQ⟩:=h
 obtain⟨A,n,c,rfl,h1,h2⟩:=arg_sl (hK _ _ _ k1)
 obtain⟨B,m,d,rfl,h3,h4⟩:=arg_sl (hK _ _ _ k2)
 refine(leaves_any ls ss A n c B m d W h1 h2 h3 h4 hnm hl hf).mono fun e w' ⟨hb,hdr,hs,he,hl2,⟨⟨A2,n2,c2,hh,_⟩,g4,g5⟩,hh3⟩=>?_
 subst hh
 refine⟨hb,_,_,he,rfl,hQ A2 n2 c2 hs hl2,fun y hy=>?_⟩
 rcases List.mem_cons.1 hy with rfl|hy
 ·rw [psL_hd]
  exact⟨g4,g5.resolve_right fun⟨y,hy,_⟩=>nomatch hy⟩
 obtain⟨p,hp,rfl⟩:=List.mem_map.1 hy
 obtain⟨j,t,ht,rfl⟩:=psL_mem hp
 obtain⟨_,g6,g7⟩:=hh3 j t ht
 exact⟨g6,g7.resolve_right fun⟨y,hy,_⟩=>nomatch hy⟩
def RMt(K:Value→Nat→List Value→Prop)(f:FuncId)(xs:List SX.Arg)(v:Value):Prop :=
 (f=18∧∃ (u1 u2:Value) (ls:List Lim) (ss:List Int) (person:Int),xs=[⟨.agg #[u1,u2],0,[]⟩,⟨.int .i64 person,0,[]⟩]∧K u1 9 (lmL ls)∧K u2 1 (inL ss)∧ls.length≤1000000000∧ss.length≤1000000000∧fitLm ls∧v=.bool (decide (rightP ls ss person))) ∨
 (f=19∧LaidK K∧∃ (u:Value) (ps:List Pb),xs=[⟨u,1,ps.map (·.1)⟩]∧(∀ p∈ps,K p.1 1 (p.2.flatMap c8))∧ps≠[]∧ps.length≤1000000∧(∀ p∈ps,p.2≠[]∧p.2.length≤17592186044416)∧v=dgV (topE (ps.map lfD))) ∨
 (f=17∧∃ (person count E S:Int) (root:Dg),xs=[⟨sealV person count root E S,0,[]⟩]∧(∀ z∈signF person count root,z.fits)∧v=.agg ((encL (signF person count root)).flatMap c8).toArray) ∨
 (f=21∧LaidK K∧∃ (key:Int) (u:Value) (X:List W8),xs=[⟨.int .i64 key,0,[]⟩,⟨u,1,X.flatMap c8⟩]∧X.length≤1048576∧v=.tuple #[.agg #[.int .i64 (signV key (bt X)).1,.int .i64 (signV key (bt X)).2.1],.int .i64 (signV key (bt X)).2.2])
noncomputable def cxMt(nb:Nat)(K A:Value→Nat→List Value→Prop):SX.Cx:={ nsh:=fun f=>if f=20 then some .one else none,Rn:=RnV,nb:=nb,P:=Tryd.prog,R:=RMt,shp:=shpF,K:=K,A:=A,trm:=true }
theorem okMt(nb:Nat)(K A:Value→Nat→List Value→Prop):(cxMt nb K A).Ok:=by
 refine SX.Cx.ok_nd (fun _=>rfl) ?_ fun f sh hs K xs Q W h hrd hK=>?_
 case refine_2 =>
  have hf:=h.1
  subst hf
  have hs:some SX.Sh.one=some sh:=hs
  cases hs
  exact rnV_ok h hK
 intro K f xs v W hR hrd hKf
 rcases hR with ⟨rfl,u1,u2,ls,ss,person,rfl,k1,k2,hl,hl2,hf,rfl⟩|⟨rfl,hL,u,ps,rfl,hk,h0,hl,hp,rfl⟩|⟨rfl,person,count,E,S,root,rfl,hf,rfl⟩|⟨rfl,hL,key,u,X,rfl,hX,rfl⟩
 ·obtain⟨A,n,c,rfl,h1,h2,h3⟩:=lms_arg (hKf _ _ _ k1)
  obtain⟨B,m,d,rfl,h4,h5⟩:=arg_sl (hKf _ _ _ k2)
  exact(right_any ls ss person A n c B m d W h1 h2 h4 h5 (by omega) (by have:=h4.1;rw [inL_len]at this;omega) hf).mono fun e w' h=>SX.plainOk rfl h
 ·obtain⟨A,n,c,rfl,h1,h2⟩:=arg_sl (hrd ⟨u,1,ps.map (·.1)⟩ (by simp))
  exact(root_any ps A n c W h1 h2 h0 hl (fun p hm=>hKf _ _ _ (hk p hm)) hp (laid_of hL hKf)).mono fun e w' h=>SX.plainOk rfl h
 ·exact Calls.mono (signed_any person count E S root W hf) fun e w' h=>SX.SlRet.ok1 rfl h
 obtain⟨A,a,e,rfl,h1,h2⟩:=arg_sl (hrd ⟨u,1,X.flatMap c8⟩ (by simp))
 exact(sign_any key (bt X) A a e W (by rw [sb_bt];exact h1) h2 (by rw [bt_size];exact hX) (laid_of hL hKf)).mono fun e w' h=>SX.plainOk rfl h
theorem signF_fits{person count:Int}{root:Dg}(h1 : -9223372036854775808≤person∧person≤9223372036854775807)(h2 : -9223372036854775808≤count∧count≤9223372036854775807):∀ z∈signF person count root,z.fits:=by
 intro z hz
 have e1:(bt (dgL root)).size=32:=bt_size _
 simp only [signF,List.mem_cons,List.not_mem_nil,or_false]at hz
 rcases hz with rfl|rfl|rfl|rfl
 ·exact(by decide:limitsT.size≤1048576)
 ·exact h1
 ·exact h2
 show(bt (dgL root)).size≤1048576
 omega
noncomputable def makeV(key person:Int)(ls:List Lim)(ss:List Int):Value :=
 if key<1∨1073741789≤key then .tuple #[sealV 0 0 (fun _=>0) 0 0,.int .i64 110]
 else if rightP ls ss person then
  (
   let root:=topE (lvD ls ss)
   let g:=signV key (bt (encL (signF person (ls.length:Int) root)))
   .tuple #[sealV person (ls.length:Int) root g.1 g.2.1,.int .i64 g.2.2])
 else .tuple #[sealV 0 0 (fun _=>0) 0 0,.int .i64 350]
def tree_emake:SX.Tree :=
(.df (.bin .lss 3) [(.q 0),(.i 1)] .one
(.br 4 []
(.ret (.t [(.a [(.i 0),(.i 0),(.k (.int .u8 0)),(.k (.int .u8 0)),(.k (.int .u8 0)),(.k (.int .u8 0)),(.k (.int .u8 0)),(.k (.int .u8 0)),(.k (.int .u8 0)),(.k (.int .u8 0)),(.k (.int .u8 0)),(.k (.int .u8 0)),(.k (.int .u8 0)),(.k (.int .u8 0)),(.k (.int .u8 0)),(.k (.int .u8 0)),(.k (.int .u8 0)),(.k (.int .u8 0)),(.k (.int .u8 0)),(.k (.int .u8 0)),(.k (.int .u8 0)),(.k (.int .u8 0)),(.k (.int .u8 0)),(.k (.int .u8 0)),(.k (.int .u8 0)),(.k (.int .u8 0)),(.k (.int .u8 0)),(.k (.int .u8 0)),(.k (.int .u8 0)),(.k (.int .u8 0)),(.k (.int .u8 0)),(.k (.int .u8 0)),(.k (.int .u8 0)),(.k (.int .u8 0)),(.i 0),(.i 0)]),(.i 110)]) [none] [])
(.df (.bin .geq 3) [(.q 0),(.i 1073741789)] .one
(.br 5 []
(.ret (.t [(.a [(.i 0),(.i 0),(.k (.int .u8 0)),(.k (.int .u8 0)),(.k (.int .u8 0)),(.k (.int .u8 0)),(.k (.int .u8 0)),(.k (.int .u8 0)),(.k (.int .u8 0)),(.k (.int .u8 0)),(.k (.int .u8 0)),(.k (.int .u8 0)),(.k (.int .u8 0)),(.k (.int .u8 0)),(.k (.int .u8 0)),(.k (.int .u8 0)),(.k (.int .u8 0)),(.k (.int .u8 0)),(.k (.int .u8 0)),(.k (.int .u8 0)),(.k (.int .u8 0)),(.k (.int .u8 0)),(.k (.int .u8 0)),(.k (.int .u8 0)),(.k (.int .u8 0)),(.k (.int .u8 0)),(.k (.int .u8 0)),(.k (.int .u8 0)),(.k (.int .u8 0)),(.k (.int .u8 0)),(.k (.int .u8 0)),(.k (.int .u8 0)),(.k (.int .u8 0)),(.k (.int .u8 0)),(.i 0),(.i 0)]),(.i 110)]) [none] [])
(.df (.call 18 [.no,.no]) [(.a [(.q 2),(.q 3)]),(.q 1)] .one
(.df .not [(.q 6)] .one
(.br 7 []
(.ret (.t [(.a [(.i 0),(.i 0),(.k (.int .u8 0)),(.k (.int .u8 0)),(.k (.int .u8 0)),(.k (.int .u8 0)),(.k (.int .u8 0)),(.k (.int .u8 0)),(.k (.int .u8 0)),(.k (.int .u8 0)),(.k (.int .u8 0)),(.k (.int .u8 0)),(.k (.int .u8 0)),(.k (.int .u8 0)),(.k (.int .u8 0)),(.k (.int .u8 0)),(.k (.int .u8 0)),(.k (.int .u8 0)),(.k (.int .u8 0)),(.k (.int .u8 0)),(.k (.int .u8 0)),(.k (.int .u8 0)),(.k (.int .u8 0)),(.k (.int .u8 0)),(.k (.int .u8 0)),(.k (.int .u8 0)),(.k (.int .u8 0)),(.k (.int .u8 0)),(.k (.int .u8 0)),(.k (.int .u8 0)),(.k (.int .u8 0)),(.k (.int .u8 0)),(.k (.int .u8 0)),(.k (.int .u8 0)),(.i 0),(.i 0)]),(.i 350)]) [none,none] [])
(.df (.len false) [(.q 2)] .one
(.df (.callq 20 [.no]) [(.a [(.q 2),(.q 3)])] .one
(.df (.call 19 [(.ext 1)]) [(.q 9)] (.ag 32)
(.df (.call 17 [.no]) [(.a ([(.q 1),(.q 8)]++SX.Y 10 0 32++[(.i 0),(.i 0)]))] (.sl 1)
(.df (.call 21 [.no,(.row 1 [(.q 11)])]) [(.q 0),(.row 2)] (.tp [(.ag 2),.one])
(.ret (.t [(.a [(.q 1),(.q 8),(.x 10 [0]),(.x 10 [1]),(.x 10 [2]),(.x 10 [3]),(.x 10 [4]),(.x 10 [5]),(.x 10 [6]),(.x 10 [7]),(.x 10 [8]),(.x 10 [9]),(.x 10 [10]),(.x 10 [11]),(.x 10 [12]),(.x 10 [13]),(.x 10 [14]),(.x 10 [15]),(.x 10 [16]),(.x 10 [17]),(.x 10 [18]),(.x 10 [19]),(.x 10 [20]),(.x 10 [21]),(.x 10 [22]),(.x 10 [23]),(.x 10 [24]),(.x 10 [25]),(.x 10 [26]),(.x 10 [27]),(.x 10 [28]),(.x 10 [29]),(.x 10 [30]),(.x 10 [31]),(.x 12 [0,0]),(.x 12 [0,1])]),(.x 12 [1])]) [none,none,none] [])))))))))))))
def args_emake:List SX.V:=[.x 0 [],.x 1 [],.x 2 [],.x 3 []]
set_option maxRecDepth 100000 in
theorem run_emake(nb:Nat)(K A:Value→Nat→List Value→Prop):(SX.run (cxMt nb K A) ⟨fun f=>f != 20,[],12,100⟩ 100000 0 (SX.door 8 Tryd.f8 args_emake [.one,.one,.one,.one]) [.code (Tryd.f8.body.getD .skip),.top Tryd.f8]).strip=tree_emake:=by kernel_rfl
theorem txt_ne(ls:List Lim)(ss:List Int)(j:Nat):txtE ls ss j≠[]:=List.cons_ne_nil _ _
set_option maxRecDepth 100000 in
set_option maxHeartbeats 4000000 in
theorem make_any(key person:Int)(ls:List Lim)(ss:List Int)(A:Option Addr)(n c:Nat)(B:Option Addr)(m d:Nat)(w:World)(hr:Rd w 9 A n (lmL ls))(hc:n≤c)(hr2:Rd w 1 B m (inL ss))(hd:m≤d)(hl:n≤1000000000)(hm:m≤1000000000)(hf:fitLm ls)(hp : -9223372036854775808≤person∧person≤9223372036854775807)(hlf:rightP ls ss person→∀ i,i<ls.length→∀ z∈leafF (i:Int) (ls.getD i default) (ss.getD i 0),z.fits)(hlaid:Laid w):Calls Tryd.prog 8 #[.int .i64 key,.int .i64 person,.slice A n c,.slice B m d] w fun e w'=>e=.returned (makeV key person ls ss)∧Below w.heap.size w w':=by
 refine SX.calls_of_run (C:=cxMt w.heap.size (KW w) (fun _ _ _=>False)) (G:=⟨fun f=>f != 20,[],12,100⟩) (args:=args_emake) (sh:=[.one,.one,.one,.one]) (ρ:=[.int .i64 key,.int .i64 person,.slice A n c,.slice B m d]) 100000 tree_emake (okMt _ _ _) Tryd.func8 rfl (run_emake _ _ _) (by kernel_rfl) (by kernel_rfl) (by kernel_rfl) ?_ ?_ ⟨rfl,Nat.le_refl _⟩
 ·exact fun W hW v z xs h=>h W hW
 have hL:LaidK (cxMt w.heap.size (KW w) (fun _ _ _=>False)).K:=KW_laid hlaid
 have hln:ls.length=n:=by have:=hr.1;rw [lmL_len]at this;omega
 have hlm:ss.length=m:=by have:=hr2.1;rw [inL_len]at this;omega
 have hK1:KW w (.slice A n c) 9 (lmL ls):=fun W hW=>⟨hr.same0 hW,hc⟩
 have hK2:KW w (.slice B m d) 1 (inL ss):=fun W hW=>⟨hr2.same0 hW,hd⟩
 unfold tree_emake
 refine SX.D (.bool (decide (key<1))) ?_
 refine SX.B (decide (key<1)) (fun g=>?_) (fun g1=>?_)
 ·have e:makeV key person ls ss=.tuple #[sealV 0 0 (fun _=>0) 0 0,.int .i64 110]:=if_pos (.inl (of_decide_eq_true g))
  rw [e]
  exact SX.F (.tuple #[sealV 0 0 (fun _=>0) 0 0,.int .i64 110]) rfl
 refine SX.D (.bool (decide (key≥1073741789))) ?_
 refine SX.B (decide (key≥1073741789)) (fun g=>?_) (fun g2=>?_)
 ·have e:makeV key person ls ss=.tuple #[sealV 0 0 (fun _=>0) 0 0,.int .i64 110]:=if_pos (.inr (of_decide_eq_true g))
  rw [e]
  exact SX.F (.tuple #[sealV 0 0 (fun _=>0) 0 0,.int .i64 110]) rfl
 have g1:=of_decide_eq_false g1
 have g2:=of_decide_eq_false g2
 refine SX.E (.bool (decide (rightP ls ss person))) (fun α=>⟨[⟨.agg #[.slice A n c,.slice B m d],0,[]⟩,⟨.int .i64 person,0,[]⟩],⟨by kernel_rfl,by kernel_rfl,by kernel_rfl,by kernel_rfl,trivial⟩,.inl ⟨rfl,_,_,ls,ss,person,rfl,hK1,hK2,by omega,by omega,hf,rfl⟩,SX.noAli rfl⟩) ?_
 refine SX.D (.bool (!decide (rightP ls ss person))) ?_
 refine SX.B (!decide (rightP ls ss person)) (fun g=>?_) (fun g3=>?_)
 ·have g:¬ rightP ls ss person:=by simpa using g
  have e:makeV key person ls ss=.tuple #[sealV 0 0 (fun _=>0) 0 0,.int .i64 350]:=by unfold makeV;rw [if_neg (by omega),if_neg g]
  rw [e]
  exact SX.F (.tuple #[sealV 0 0 (fun _=>0) 0 0,.int .i64 350]) rfl
 have g3:rightP ls ss person:=by simpa using g3
 have hlf:=hlf g3
 have g3':=g3
 obtain⟨q1,q2,q3,_⟩:=g3
 refine SX.D (.int .i64 (n:Int)) ?_
 refine SX.VC_dn (fun v N=>∃ A1 n1 c1 hs,List.length (α:=Hd3) hs=ls.length∧v=.slice A1 n1 c1∧N=lvN (.slice A1 n1 c1) hs ls ss) (fun _=>rfl) (fun α=>⟨[⟨.agg #[.slice A n c,.slice B m d],0,[]⟩],⟨by kernel_rfl,by kernel_rfl,trivial⟩,rfl,_,_,ls,ss,rfl,hK1,hK2,by omega,by omega,hlf,fun A1 n1 c1 hs h=>⟨A1,n1,c1,hs,h,rfl,rfl⟩⟩) ?_
 rintro _ _-⟨A1,n1,c1,hs,hhs,rfl,rfl⟩
 have hN:∀ y∈lvN (.slice A1 n1 c1) hs ls ss,((cxMt w.heap.size (KW w) (fun _ _ _=>False)).plus (lvN (.slice A1 n1 c1) hs ls ss++(cxMt w.heap.size (KW w) (fun _ _ _=>False)).N)).K y.v y.sz y.cells:=fun y hy=>SX.K_mem (List.mem_append_left _ hy)
 have hN0:=hN _ (List.mem_cons_self ..)
 have hNp:∀ p∈psL hs ls ss,((cxMt w.heap.size (KW w) (fun _ _ _=>False)).plus (lvN (.slice A1 n1 c1) hs ls ss++(cxMt w.heap.size (KW w) (fun _ _ _=>False)).N)).K p.1 1 (p.2.flatMap c8):=fun p hm=>hN ⟨p.1,1,p.2.flatMap c8⟩ (List.mem_cons_of_mem _ (List.mem_map.2 ⟨p,hm,rfl⟩))
 have hpn:psL hs ls ss≠[]:=fun h=>by have h2:=psL_len hs ls ss;rw [h]at h2;simp at h2;omega
 have hpt:∀ p∈psL hs ls ss,p.2≠[]∧p.2.length≤17592186044416:=fun p hm=>by
  obtain⟨j,t,ht,rfl⟩:=psL_mem hm
  have hj:=(List.getElem?_eq_some_iff.1 ht).1
  have h1:=encL_lt (hlf j (by omega)) (by simp [leafF])
  exact⟨txt_ne ls ss j,Nat.le_of_lt (show(txtE ls ss j).length<17592186044416 from h1)⟩
 have hpl:=psL_len hs ls ss
 refine SX.E (dgV (topE (lvD ls ss))) (fun α=>⟨[⟨.slice A1 n1 c1,1,(psL hs ls ss).map (·.1)⟩],⟨by kernel_rfl,rfl,cast (by kernel_rfl) hN0,trivial⟩,.inr (.inl ⟨rfl,L_pl hL,_,psL hs ls ss,rfl,hNp,hpn,by omega,hpt,by rw [psL_lfD hhs]⟩),SX.noAli rfl⟩) ?_
 have hsf:=signF_fits (root:=topE (lvD ls ss)) (count:=(n:Int)) hp (by omega)
 have hsl:=sign_len hsf
 have e:makeV key person ls ss=.tuple #[sealV person (n:Int) (topE (lvD ls ss)) (signV key (bt (encL (signF person (n:Int) (topE (lvD ls ss)))))).1 (signV key (bt (encL (signF person (n:Int) (topE (lvD ls ss)))))).2.1,.int .i64 (signV key (bt (encL (signF person (n:Int) (topE (lvD ls ss)))))).2.2]:=by
  unfold makeV
  rw [if_neg (by omega),if_pos g3',hln]
 rw [e]
 generalize topE (lvD ls ss)=root at *
 refine SX.VC_df (.agg ((encL (signF person (n:Int) root)).flatMap c8).toArray) (fun α=>⟨[⟨sealV person (n:Int) root 0 0,0,[]⟩],⟨by kernel_rfl,by kernel_rfl,trivial⟩,.inr (.inr (.inl ⟨rfl,person,n,0,0,root,rfl,hsf,rfl⟩)),SX.noAli rfl⟩) (encs_fit _) ?_
 generalize encL (signF person (n:Int) root)=X at *
 generalize hG:signV key (bt X)=G at *
 refine SX.E (.tuple #[.agg #[.int .i64 G.1,.int .i64 G.2.1],.int .i64 G.2.2]) (fun α=>⟨[⟨.int .i64 key,0,[]⟩,⟨(α 2).h,1,X.flatMap c8⟩],⟨by kernel_rfl,by kernel_rfl,Eq.trans (SX.argNil (α 2).h 1 (X.flatMap c8)) (by kernel_rfl),trivial⟩,.inr (.inr (.inr ⟨rfl,L_pl hL,key,_,X,rfl,hsl,by rw [hG]⟩)),SX.noAli rfl⟩) ?_
 exact SX.F (.tuple #[sealV person (n:Int) root G.1 G.2.1,.int .i64 G.2.2]) rfl
structure Opn where
 (k s:Int)
 x:Lim
 p:List Dg
 e:Int
noncomputable def openE(person:Int)(ls:List Lim)(ss:List Int)(at_:Int):Opn :=
 if rightP ls ss person then
  if 0≤at_∧at_<(ls.length:Int)then⟨at_,ss.getD at_.toNat 0,ls.getD at_.toNat default,proveE (lvD ls ss) at_.toNat,0⟩else⟨0,0,default,[],1⟩
 else⟨0,0,default,[],350⟩
def RMo(K:Value→Nat→List Value→Prop)(f:FuncId)(xs:List SX.Arg)(v:Value):Prop :=
 f=18∧∃ (u1 u2:Value) (ls:List Lim) (ss:List Int) (person:Int),xs=[⟨.agg #[u1,u2],0,[]⟩,⟨.int .i64 person,0,[]⟩]∧K u1 9 (lmL ls)∧K u2 1 (inL ss)∧ls.length≤1000000000∧ss.length≤1000000000∧fitLm ls∧v=.bool (decide (rightP ls ss person))
def RnO(K:Value→Nat→List Value→Prop)(f:FuncId)(xs:List SX.Arg)(Q:Value→List SX.Arg→Prop):Prop :=
 RnV K f xs Q ∨
 (f=25∧LaidK K∧∃ (u:Value) (ps:List Pb) (i:Nat),xs=[⟨u,1,ps.map (·.1)⟩,⟨.int .i64 (i:Int),0,[]⟩]∧(∀ p∈ps,K p.1 1 (p.2.flatMap c8))∧i<ps.length∧ps.length≤65536∧(∀ p∈ps,p.2≠[]∧p.2.length≤17592186044416)∧∀ A n c,Q (.tuple #[.slice A n c,.int .i64 0]) [⟨.slice A n c,32,dgs (proveE (ps.map lfD) i)⟩])
def nshO:FuncId→Option SX.Sh:=fun f=>if f=20 then some .one else if f=25 then some (.tp [.one,.one])else none
noncomputable def cxMo(nb:Nat)(K A:Value→Nat→List Value→Prop):SX.Cx:={ nsh:=nshO,Rn:=RnO,nb:=nb,P:=Tryd.prog,R:=RMo,shp:=shpF,K:=K,A:=A,trm:=true }
theorem okMo(nb:Nat)(K A:Value→Nat→List Value→Prop):(cxMo nb K A).Ok:=by
 refine SX.Cx.ok_nd (fun _=>rfl) ?_ fun f sh hs K xs Q W h hrd hK=>?_
 case refine_2 =>
  rcases h with h|⟨rfl,hL,u,ps,i,rfl,hk,hi,hl,hp,hQ⟩
  ·have hf:=h.1
   subst hf
   have hs:some SX.Sh.one=some sh:=hs
   cases hs
   exact rnV_ok h hK
  have hs:some (SX.Sh.tp [.one,.one])=some sh:=hs
  cases hs
  obtain⟨A,n,c,rfl,h1,h2⟩:=arg_sl (hrd ⟨u,1,ps.map (·.1)⟩ (by simp))
  refine(prove_any ps i A n c W h1 h2 hi hl (fun p hm=>hK _ _ _ (hk p hm)) hp (laid_of hL hK)).mono fun e w' ⟨hb,hdr,he,⟨⟨A2,n2,c2,hh,_⟩,g4,g5⟩⟩=>?_
  subst hh
  refine⟨hb,_,_,he,rfl,hQ A2 n2 c2,fun y hy=>?_⟩
  obtain rfl:y=⟨.slice A2 n2 c2,32,dgs (proveE (ps.map lfD) i)⟩:=by simpa using hy
  exact⟨g4,g5.resolve_right fun⟨y,hy,_⟩=>nomatch hy⟩
 intro K f xs v W hR hrd hKf
 obtain⟨rfl,u1,u2,ls,ss,person,rfl,k1,k2,hl,hl2,hf,rfl⟩:=hR
 obtain⟨A,n,c,rfl,h1,h2,h3⟩:=lms_arg (hKf _ _ _ k1)
 obtain⟨B,m,d,rfl,h4,h5⟩:=arg_sl (hKf _ _ _ k2)
 exact(right_any ls ss person A n c B m d W h1 h2 h4 h5 (by omega) (by have:=h4.1;rw [inL_len]at this;omega) hf).mono fun e w' h=>SX.plainOk rfl h
def tree_eopen:SX.Tree :=(.df (.call 18 [.no,.no]) [(.a [(.q 1),(.q 2)]),(.q 0)] .one
(.df .not [(.q 4)] .one
(.br 5 []
(.ret (.t [(.a [(.i 0),(.i 0),(.i 0),(.i 0),(.i 0),(.i 0),(.i 0),(.i 0),(.i 0),(.i 0),(.i 0),(.k (.slice none 0 0))]),(.i 350)]) [none,none] [])
(.df (.bin .lss 3) [(.q 3),(.i 0)] .one
(.br 6 []
(.ret (.t [(.a [(.i 0),(.i 0),(.i 0),(.i 0),(.i 0),(.i 0),(.i 0),(.i 0),(.i 0),(.i 0),(.i 0),(.k (.slice none 0 0))]),(.i 1)]) [none,none] [])
(.df (.len false) [(.q 1)] .one
(.df (.bin .geq 3) [(.q 3),(.q 7)] .one
(.br 8 []
(.ret (.t [(.a [(.i 0),(.i 0),(.i 0),(.i 0),(.i 0),(.i 0),(.i 0),(.i 0),(.i 0),(.i 0),(.i 0),(.k (.slice none 0 0))]),(.i 1)]) [none,none] [])
(.df .bnd [(.q 2),(.q 3)] .one
(.df (.elem 1 0) [(.q 2),(.q 3)] .one
(.df .bnd [(.q 1),(.q 3)] .one
(.df (.elems 9 0 9) [(.q 1),(.q 3)] (.ag 9)
(.df (.callq 20 [.no]) [(.a [(.q 1),(.q 2)])] .one
(.df (.callq 25 [(.ext 1),.no]) [(.q 13),(.q 3)] (.tp [.one,.one])
(.ret (.t [(.a ([(.q 3),(.q 10)]++SX.Y 12 0 9++[(.x 14 [0])])),(.x 14 [1])]) [none,none] [])))))))))))))))
def args_eopen:List SX.V:=[.x 0 [],.x 1 [],.x 2 [],.x 3 []]
def cfgOpen:SX.Cfg:=⟨fun f=>f != 20 && f != 25,[],12,100⟩
set_option maxRecDepth 100000 in
theorem run_eopen(nb:Nat)(K A:Value→Nat→List Value→Prop):(SX.run (cxMo nb K A) cfgOpen 100000 0 (SX.door 10 Tryd.f10 args_eopen [.one,.one,.one,.one]) [.code (Tryd.f10.body.getD .skip),.top Tryd.f10]).strip=tree_eopen:=by kernel_rfl
set_option maxRecDepth 100000 in
set_option maxHeartbeats 4000000 in
theorem open_any(person:Int)(ls:List Lim)(ss:List Int)(at_:Int)(A:Option Addr)(n c:Nat)(B:Option Addr)(m d:Nat)(w:World)(hr:Rd w 9 A n (lmL ls))(hc:n≤c)(hr2:Rd w 1 B m (inL ss))(hd:m≤d)(hl:n≤1000000000)(hm:m≤1000000000)(hf:fitLm ls)(hlf:rightP ls ss person→∀ i,i<ls.length→∀ z∈leafF (i:Int) (ls.getD i default) (ss.getD i 0),z.fits)(hlaid:Laid w):Calls Tryd.prog 10 #[.int .i64 person,.slice A n c,.slice B m d,.int .i64 at_] w fun e w'=>Below w.heap.size w w'∧∃ hdr,e=.returned (.tuple #[leafV (openE person ls ss at_).k (openE person ls ss at_).s (openE person ls ss at_).x hdr,.int .i64 (openE person ls ss at_).e])∧SX.SlRet w w' [] hdr 32 (dgs (openE person ls ss at_).p):=by
 refine SX.calls_of_run (C:=cxMo w.heap.size (KW w) (fun _ _ _=>False)) (G:=cfgOpen) (args:=args_eopen) (sh:=[.one,.one,.one,.one]) (ρ:=[.int .i64 person,.slice A n c,.slice B m d,.int .i64 at_]) 100000 tree_eopen (okMo _ _ _) Tryd.func10 rfl (run_eopen _ _ _) (by kernel_rfl) (by kernel_rfl) (by kernel_rfl) ?_ ?_ ⟨rfl,Nat.le_refl _⟩
 ·exact fun W hW v z xs h=>h W hW
 have hL:LaidK (cxMo w.heap.size (KW w) (fun _ _ _=>False)).K:=KW_laid hlaid
 have hA:=SX.rd_some hr
 have hB:=SX.rd_some hr2
 have hln:ls.length=n:=by have:=hr.1;rw [lmL_len]at this;omega
 have hlm:ss.length=m:=by have:=hr2.1;rw [inL_len]at this;omega
 have hK1:KW w (.slice A n c) 9 (lmL ls):=fun W hW=>⟨hr.same0 hW,hc⟩
 have hK2:KW w (.slice B m d) 1 (inL ss):=fun W hW=>⟨hr2.same0 hW,hd⟩
 unfold tree_eopen
 refine SX.E (.bool (decide (rightP ls ss person))) (fun α=>⟨[⟨.agg #[.slice A n c,.slice B m d],0,[]⟩,⟨.int .i64 person,0,[]⟩],⟨by kernel_rfl,by kernel_rfl,by kernel_rfl,by kernel_rfl,trivial⟩,⟨rfl,_,_,ls,ss,person,rfl,hK1,hK2,by omega,by omega,hf,rfl⟩,SX.noAli rfl⟩) ?_
 refine SX.D (.bool (!decide (rightP ls ss person))) ?_
 refine SX.B (!decide (rightP ls ss person)) (fun g=>?_) (fun g3=>?_)
 ·have g:¬ rightP ls ss person:=by simpa using g
  have e:openE person ls ss at_=⟨0,0,default,[],350⟩:=if_neg g
  rw [e]
  exact SX.VC_ret fun α W _ _ hS=>⟨hS.below,.slice none 0 0,by kernel_rfl,SX.SlRet.nil⟩
 have g3:rightP ls ss person:=by simpa using g3
 have hlf:=hlf g3
 obtain⟨q1,q2,q3,_⟩:=id g3
 refine SX.D (.bool (decide (at_<0))) ?_
 refine SX.B (decide (at_<0)) (fun g=>?_) (fun g1=>?_)
 ·have g:=of_decide_eq_true g
  have e:openE person ls ss at_=⟨0,0,default,[],1⟩:=by unfold openE;rw [if_pos g3,if_neg (by omega)]
  rw [e]
  exact SX.VC_ret fun α W _ _ hS=>⟨hS.below,.slice none 0 0,by kernel_rfl,SX.SlRet.nil⟩
 have g1:=of_decide_eq_false g1
 refine SX.D (.int .i64 (n:Int)) ?_
 refine SX.D (.bool (decide (at_≥(n:Int)))) ?_
 refine SX.B (decide (at_≥(n:Int))) (fun g=>?_) (fun g2=>?_)
 ·have g:=of_decide_eq_true g
  have e:openE person ls ss at_=⟨0,0,default,[],1⟩:=by unfold openE;rw [if_pos g3,if_neg (by omega)]
  rw [e]
  exact SX.VC_ret fun α W _ _ hS=>⟨hS.below,.slice none 0 0,by kernel_rfl,SX.SlRet.nil⟩
 have g2:=of_decide_eq_false g2
 obtain⟨k,rfl⟩:∃ k:Nat,at_=(k:Int):=⟨at_.toNat,by omega⟩
 have hk:k<n:=by omega
 obtain⟨x,hx⟩:∃ x,ls[k]?=some x:=⟨_,List.getElem?_eq_getElem (by omega)⟩
 obtain⟨s,hs⟩:∃ s,ss[k]?=some s:=⟨_,List.getElem?_eq_getElem (by omega)⟩
 have e:openE person ls ss (k:Int)=⟨(k:Int),s,x,proveE (lvD ls ss) k,0⟩:=by
  unfold openE
  rw [if_pos g3,if_pos (by omega),Int.toNat_natCast,List.getD_eq_getElem?_getD,hs,List.getD_eq_getElem?_getD,hx]
  rfl
 rw [e]
 refine SX.E (.bool true) (fun α=>SX.extBnd (A:=B) (n:=m) (c:=d) (j:=k) hB (by kernel_rfl) (by kernel_rfl) (by omega)) ?_
 refine SX.E (.int .i64 s) (fun α=>SX.extElem (o:=0) (v:=.int .i64 s) (f:=fun k:Int=>[Value.int .i64 k]) (l:=ss) (A:=B) (n:=m) (c:=d) (j:=k) (z:=s) (fun _=>rfl) hB (by kernel_rfl) (by kernel_rfl) (by omega) (cast (by kernel_rfl) hK2) hs (by decide) (by kernel_rfl)) ?_
 refine SX.E (.bool true) (fun α=>SX.extBnd (A:=A) (n:=n) (c:=c) (j:=k) hA (by kernel_rfl) (by kernel_rfl) hk) ?_
 refine SX.E (valLm x) (fun α=>SX.extElems (f:=cellsLm) (l:=ls) (A:=A) (n:=n) (c:=c) (j:=k) (z:=x) (fun _=>rfl) hA (by kernel_rfl) (by kernel_rfl) hk (cast (by kernel_rfl) hK1) hx) ?_
 refine SX.VC_dn (fun v N=>∃ A1 n1 c1 hs,List.length (α:=Hd3) hs=ls.length∧v=.slice A1 n1 c1∧N=lvN (.slice A1 n1 c1) hs ls ss) (fun _=>rfl) (fun α=>⟨[⟨.agg #[.slice A n c,.slice B m d],0,[]⟩],⟨by kernel_rfl,by kernel_rfl,trivial⟩,.inl ⟨rfl,_,_,ls,ss,rfl,hK1,hK2,by omega,by omega,hlf,fun A1 n1 c1 hs h=>⟨A1,n1,c1,hs,h,rfl,rfl⟩⟩⟩) ?_
 rintro _ _-⟨A1,n1,c1,hs,hhs,rfl,rfl⟩
 have hN:∀ y∈lvN (.slice A1 n1 c1) hs ls ss,((cxMo w.heap.size (KW w) (fun _ _ _=>False)).plus (lvN (.slice A1 n1 c1) hs ls ss++(cxMo w.heap.size (KW w) (fun _ _ _=>False)).N)).K y.v y.sz y.cells:=fun y hy=>SX.K_mem (List.mem_append_left _ hy)
 have hN0:=hN _ (List.mem_cons_self ..)
 have hNp:∀ p∈psL hs ls ss,((cxMo w.heap.size (KW w) (fun _ _ _=>False)).plus (lvN (.slice A1 n1 c1) hs ls ss++(cxMo w.heap.size (KW w) (fun _ _ _=>False)).N)).K p.1 1 (p.2.flatMap c8):=fun p hm=>hN ⟨p.1,1,p.2.flatMap c8⟩ (List.mem_cons_of_mem _ (List.mem_map.2 ⟨p,hm,rfl⟩))
 have hpt:∀ p∈psL hs ls ss,p.2≠[]∧p.2.length≤17592186044416:=fun p hm=>by
  obtain⟨j,t,ht,rfl⟩:=psL_mem hm
  have hj:=(List.getElem?_eq_some_iff.1 ht).1
  have h1:=encL_lt (hlf j (by omega)) (by simp [leafF])
  exact⟨txt_ne ls ss j,Nat.le_of_lt (show(txtE ls ss j).length<17592186044416 from h1)⟩
 have hpl:=psL_len hs ls ss
 refine SX.VC_dn (fun v N=>∃ A2 n2 c2,v=.tuple #[.slice A2 n2 c2,.int .i64 0]∧N=[⟨.slice A2 n2 c2,32,dgs (proveE (lvD ls ss) k)⟩]) (fun _=>rfl) (fun α=>⟨[⟨.slice A1 n1 c1,1,(psL hs ls ss).map (·.1)⟩,⟨.int .i64 (k:Int),0,[]⟩],⟨by kernel_rfl,rfl,cast (by kernel_rfl) hN0,by kernel_rfl,by kernel_rfl,trivial⟩,.inr ⟨rfl,L_pl hL,_,psL hs ls ss,k,rfl,hNp,by omega,by omega,hpt,fun A2 n2 c2=>⟨A2,n2,c2,rfl,by rw [psL_lfD hhs]⟩⟩⟩) ?_
 rintro _ _-⟨A2,n2,c2,rfl,rfl⟩
 refine SX.VC_ret fun α W _ hrow hS=>⟨hS.below,.slice A2 n2 c2,by kernel_rfl,?_⟩
 have hN:=hS.fact (p:=SX.NF _) (List.mem_append.2 (.inr (List.mem_cons_of_mem _ (List.mem_cons_self ..)))) ⟨.slice A2 n2 c2,32,dgs (proveE (lvD ls ss) k)⟩ (List.mem_cons_self ..)
 exact⟨⟨A2,n2,c2,rfl,hN.1.2⟩,hN.1,.inl hN.2⟩
end Go.Proofs.YtidekfgkpindbaaDoor
namespace Go.Proofs.YtidekfgkpindbaaDoor
set_option maxRecDepth 100000
open Go Go.RowKit
def absF:Nat→S8→List W8→S8×List W8
 | 0,s,l=>(s,l)
 | k+1,s,l=>absF k (absorbE s (l.take 64)) (l.drop 64)
theorem absF_ok:∀ (k:Nat)(s:S8)(l:List W8),l.length / 64=k→absF k s l=absAll s l
 | 0,s,l,h=>by rw [absAll_lt (by omega)];rfl
 | k+1,s,l,h=>by rw [absAll_ge (by omega),absF,absF_ok k _ _ (by simp;omega)]
def sumF(l:List W8):List W8:=outS (endS (absF (l.length / 64) startS l).1 (absF (l.length / 64) startS l).2 l.length)
theorem sumF_ok(l:List W8):sumE l=sumF l:=by unfold sumE sumF;rw [absF_ok _ _ _ rfl]
theorem sumE_is{l d:List W8}(h:sumF l=d):sumE l=d:=(sumF_ok l).trans h
def pmF(a:Nat):Nat→Nat→Nat
 | 0,_=>1
 | f+1,n=>pmF a f (n / 2) ^ 2*a ^ (n % 2) % 2147483579
theorem pmF_ok(a:Nat):∀ (f n:Nat),n<2 ^ f→pmF a f n=Jac.pm a n
 | 0,n,h=>by
  have e:n=0:=by simpa using h
  subst e;rfl
 | f+1,n,h=>by
  have ih:=pmF_ok a f (n / 2) (by rw [Nat.pow_succ]at h;omega)
  have e:a ^ n=(a ^ (n / 2)) ^ 2*a ^ (n % 2):=by rw [← Nat.pow_mul,← Nat.pow_add];congr 1;omega
  show pmF a f (n / 2) ^ 2*a ^ (n % 2) % 2147483579=a ^ n % 2147483579
  rw [ih,e,Nat.mul_mod,Jac.pm,← Nat.pow_mod,← Nat.mul_mod]
theorem powV_is{a n b:Int}(h:Jac.vld a=true)(hb:((pmF a.toNat 31 (Jac.red n).toNat:Nat):Int)=b)(hn:(Jac.red n).toNat<2 ^ 31):Jac.powV a n=b:=by
 rw [← hb,pmF_ok _ _ _ hn];exact if_pos h
def lim0:Lim:=⟨1,3,0,5,9,7,3,0,2⟩
def lim1:Lim:=⟨4,3,0,0,9,7,4,0,0⟩
def lim2:Lim:=⟨4,3,0,0,10,7,4,0,0⟩
def numF:Nat→Nat→List W8
 | 0,u=>[BitVec.ofNat 8 u]
 | f+1,u=>if u<128 then [BitVec.ofNat 8 u]else(BitVec.ofNat 8 u|||128#8)::numF f (u / 128)
theorem numF_ok:∀ (f u:Nat),u<128 ^ (f+1)→numF f u=numB u
 | 0,u,h=>(numB_lt (by simpa using h)).symm
 | f+1,u,h=>by
  unfold numF
  by_cases h1:u<128
  ·rw [if_pos h1,numB_lt h1]
  rw [if_neg h1,numB_ge h1,numF_ok f _ (by rw [Nat.pow_succ]at h;omega)]
theorem enc_0:encL (leafF 0 lim0 7)=[3#8,12#8,2#8,5#8,108#8,105#8,109#8,105#8,116#8,1#8,0#8,1#8,2#8,1#8,6#8,1#8,0#8,1#8,10#8,1#8,18#8,1#8,14#8,1#8,6#8,1#8,0#8,1#8,4#8,1#8,14#8]:=by
 simp only [encL,leafF,List.flatMap_cons,List.flatMap_nil,encF]
 repeat rw [numB_lt (by decide)]
 rfl
theorem enc_1:encL (leafF 1 lim1 9)=[3#8,12#8,2#8,5#8,108#8,105#8,109#8,105#8,116#8,1#8,2#8,1#8,8#8,1#8,6#8,1#8,0#8,1#8,0#8,1#8,18#8,1#8,14#8,1#8,8#8,1#8,0#8,1#8,0#8,1#8,18#8]:=by
 simp only [encL,leafF,List.flatMap_cons,List.flatMap_nil,encF]
 repeat rw [numB_lt (by decide)]
 rfl
theorem enc_2:encL (leafF 1 lim2 9)=[3#8,12#8,2#8,5#8,108#8,105#8,109#8,105#8,116#8,1#8,2#8,1#8,8#8,1#8,6#8,1#8,0#8,1#8,0#8,1#8,20#8,1#8,14#8,1#8,8#8,1#8,0#8,1#8,0#8,1#8,18#8]:=by
 simp only [encL,leafF,List.flatMap_cons,List.flatMap_nil,encF]
 repeat rw [numB_lt (by decide)]
 rfl
theorem sum_leaf:sumE (sb leafT)=[159#8,145#8,22#8,31#8,67#8,67#8,62#8,73#8,166#8,222#8,109#8,182#8,128#8,215#8,159#8,96#8,21#8,159#8,46#8,74#8,201#8,23#8,38#8,33#8,161#8,40#8,70#8,66#8,129#8,88#8,68#8,11#8]:=sumE_is (by kernel_rfl)
theorem sum_node:sumE (sb nodeT)=[84#8,94#8,165#8,56#8,70#8,16#8,3#8,239#8,220#8,140#8,129#8,194#8,68#8,83#8,27#8,0#8,63#8,111#8,38#8,207#8,204#8,246#8,192#8,7#8,59#8,50#8,57#8,253#8,237#8,244#8,148#8,70#8]:=sumE_is (by kernel_rfl)
theorem dg_0:dgL (dgH (lfX (encL (leafF 0 lim0 7))))=[118#8,39#8,108#8,53#8,45#8,245#8,97#8,200#8,206#8,16#8,165#8,244#8,152#8,244#8,118#8,240#8,236#8,235#8,58#8,50#8,38#8,32#8,178#8,121#8,62#8,147#8,75#8,221#8,38#8,175#8,146#8,121#8]:=by
 rw [dgH_L,enc_0,lfX,sum_leaf]
 exact sumE_is (by kernel_rfl)
theorem dg_1:dgL (dgH (lfX (encL (leafF 1 lim1 9))))=[193#8,120#8,216#8,181#8,155#8,218#8,118#8,163#8,221#8,252#8,200#8,237#8,58#8,225#8,38#8,21#8,203#8,172#8,210#8,130#8,34#8,224#8,50#8,73#8,166#8,251#8,170#8,68#8,226#8,233#8,33#8,167#8]:=by
 rw [dgH_L,enc_1,lfX,sum_leaf]
 exact sumE_is (by kernel_rfl)
theorem dg_2:dgL (dgH (lfX (encL (leafF 1 lim2 9))))=[28#8,18#8,170#8,2#8,41#8,152#8,222#8,52#8,213#8,131#8,95#8,210#8,91#8,16#8,241#8,211#8,123#8,157#8,92#8,2#8,185#8,184#8,81#8,184#8,129#8,57#8,152#8,131#8,11#8,236#8,117#8,84#8]:=by
 rw [dgH_L,enc_2,lfX,sum_leaf]
 exact sumE_is (by kernel_rfl)
def rootX:Dg:=dgH (ndX (dgH (lfX (encL (leafF 0 lim0 7)))) (dgH (lfX (encL (leafF 1 lim1 9)))))
def rootY:Dg:=dgH (ndX (dgH (lfX (encL (leafF 0 lim0 7)))) (dgH (lfX (encL (leafF 1 lim2 9)))))
theorem dg_X:dgL rootX=[197#8,215#8,163#8,242#8,133#8,243#8,185#8,159#8,136#8,6#8,113#8,140#8,139#8,155#8,13#8,200#8,209#8,247#8,46#8,66#8,76#8,130#8,59#8,29#8,91#8,4#8,61#8,183#8,1#8,58#8,76#8,109#8]:=by
 unfold rootX
 rw [dgH_L,ndX,sum_node,dg_0,dg_1]
 exact sumE_is (by kernel_rfl)
theorem dg_Y:dgL rootY=[84#8,175#8,1#8,102#8,253#8,45#8,111#8,233#8,250#8,22#8,3#8,67#8,53#8,82#8,170#8,238#8,96#8,17#8,165#8,73#8,233#8,173#8,243#8,83#8,116#8,37#8,123#8,158#8,127#8,118#8,67#8,187#8]:=by
 unfold rootY
 rw [dgH_L,ndX,sum_node,dg_0,dg_2]
 exact sumE_is (by kernel_rfl)
theorem dg_XY:dgL rootY≠dgL rootX:=by rw [dg_X,dg_Y];decide
def txX:List W8:=[3#8,4#8,2#8,6#8,108#8,105#8,109#8,105#8,116#8,115#8,1#8,6#8,1#8,4#8,2#8,32#8,197#8,215#8,163#8,242#8,133#8,243#8,185#8,159#8,136#8,6#8,113#8,140#8,139#8,155#8,13#8,200#8,209#8,247#8,46#8,66#8,76#8,130#8,59#8,29#8,91#8,4#8,61#8,183#8,1#8,58#8,76#8,109#8]
theorem enc_tx:encL (signF 3 2 rootX)=txX:=by
 have e1:(bt (dgL rootX)).size=32:=bt_size _
 simp only [encL,signF,List.flatMap_cons,List.flatMap_nil,encF,e1,sb_bt,dg_X]
 repeat rw [numB_lt (by decide)]
 rfl
theorem sum_nonce:sumE (sb nonceT)=[120#8,55#8,123#8,82#8,87#8,87#8,180#8,148#8,66#8,127#8,137#8,1#8,79#8,151#8,215#8,153#8,40#8,243#8,147#8,141#8,20#8,235#8,81#8,226#8,15#8,181#8,222#8,201#8,131#8,78#8,179#8,4#8]:=sumE_is (by kernel_rfl)
theorem sum_sign:sumE (sb signT)=[11#8,111#8,57#8,92#8,161#8,74#8,194#8,2#8,55#8,77#8,92#8,255#8,103#8,139#8,113#8,21#8,125#8,11#8,239#8,126#8,0#8,195#8,4#8,94#8,155#8,128#8,170#8,180#8,255#8,184#8,82#8,118#8]:=sumE_is (by kernel_rfl)
theorem num_8:numB 8=[8#8]:=(numF_ok 9 8 (by decide)).symm.trans (by kernel_rfl)
theorem num_10:numB 10=[10#8]:=(numF_ok 9 10 (by decide)).symm.trans (by kernel_rfl)
theorem num_2048:numB 2048=[128#8,16#8]:=(numF_ok 9 2048 (by decide)).symm.trans (by kernel_rfl)
theorem num_1911278952:numB 1911278952=[232#8,154#8,175#8,143#8,7#8]:=(numF_ok 9 1911278952 (by decide)).symm.trans (by kernel_rfl)
theorem num_3688104104:numB 3688104104=[168#8,129#8,208#8,222#8,13#8]:=(numF_ok 9 3688104104 (by decide)).symm.trans (by kernel_rfl)
theorem tx_size:(bt txX).size=48:=rfl
theorem hv_nonce:hashV nonceT [.n 5,.s (bt txX)]=1047721554:=by
 have e:encL [.n 5,.s (bt txX)]=[3#8,2#8,1#8,10#8,2#8,48#8,3#8,4#8,2#8,6#8,108#8,105#8,109#8,105#8,116#8,115#8,1#8,6#8,1#8,4#8,2#8,32#8,197#8,215#8,163#8,242#8,133#8,243#8,185#8,159#8,136#8,6#8,113#8,140#8,139#8,155#8,13#8,200#8,209#8,247#8,46#8,66#8,76#8,130#8,59#8,29#8,91#8,4#8,61#8,183#8,1#8,58#8,76#8,109#8]:=by
  simp only [encL,List.flatMap_cons,List.flatMap_nil,encF,tx_size,sb_bt]
  rw [show numB ([.n 5,.s (bt txX)]:List Fl).length=[2#8] from numB_lt (by decide:2<128),numB_lt (by decide:48<128)]
  rw [show numB (unsN 5)=[10#8] from num_10]
  rfl
 unfold hashV tagE
 rw [sum_nonce,e]
 have h:sumE ([120#8,55#8,123#8,82#8,87#8,87#8,180#8,148#8,66#8,127#8,137#8,1#8,79#8,151#8,215#8,153#8,40#8,243#8,147#8,141#8,20#8,235#8,81#8,226#8,15#8,181#8,222#8,201#8,131#8,78#8,179#8,4#8]++[3#8,2#8,1#8,10#8,2#8,48#8,3#8,4#8,2#8,6#8,108#8,105#8,109#8,105#8,116#8,115#8,1#8,6#8,1#8,4#8,2#8,32#8,197#8,215#8,163#8,242#8,133#8,243#8,185#8,159#8,136#8,6#8,113#8,140#8,139#8,155#8,13#8,200#8,209#8,247#8,46#8,66#8,76#8,130#8,59#8,29#8,91#8,4#8,61#8,183#8,1#8,58#8,76#8,109#8])=[225#8,227#8,126#8,116#8,118#8,9#8,177#8,125#8,41#8,179#8,198#8,120#8,192#8,160#8,165#8,112#8,90#8,118#8,238#8,179#8,16#8,74#8,206#8,128#8,66#8,90#8,225#8,180#8,136#8,17#8,192#8,42#8]:=sumE_is (by kernel_rfl)
 rw [h]
 rfl
theorem hv_sign:hashV signT [.n 955639476,.n 1024,.s (bt txX)]=492397864:=by
 have e:encL [.n 955639476,.n 1024,.s (bt txX)]=[3#8,3#8,1#8,232#8,154#8,175#8,143#8,7#8,1#8,128#8,16#8,2#8,48#8,3#8,4#8,2#8,6#8,108#8,105#8,109#8,105#8,116#8,115#8,1#8,6#8,1#8,4#8,2#8,32#8,197#8,215#8,163#8,242#8,133#8,243#8,185#8,159#8,136#8,6#8,113#8,140#8,139#8,155#8,13#8,200#8,209#8,247#8,46#8,66#8,76#8,130#8,59#8,29#8,91#8,4#8,61#8,183#8,1#8,58#8,76#8,109#8]:=by
  simp only [encL,List.flatMap_cons,List.flatMap_nil,encF,tx_size,sb_bt]
  rw [show numB ([.n 955639476,.n 1024,.s (bt txX)]:List Fl).length=[3#8] from numB_lt (by decide:3<128),numB_lt (by decide:48<128)]
  rw [show numB (unsN 955639476)=[232#8,154#8,175#8,143#8,7#8] from num_1911278952]
  rw [show numB (unsN 1024)=[128#8,16#8] from num_2048]
  rfl
 unfold hashV tagE
 rw [sum_sign,e]
 have h:sumE ([11#8,111#8,57#8,92#8,161#8,74#8,194#8,2#8,55#8,77#8,92#8,255#8,103#8,139#8,113#8,21#8,125#8,11#8,239#8,126#8,0#8,195#8,4#8,94#8,155#8,128#8,170#8,180#8,255#8,184#8,82#8,118#8]++[3#8,3#8,1#8,232#8,154#8,175#8,143#8,7#8,1#8,128#8,16#8,2#8,48#8,3#8,4#8,2#8,6#8,108#8,105#8,109#8,105#8,116#8,115#8,1#8,6#8,1#8,4#8,2#8,32#8,197#8,215#8,163#8,242#8,133#8,243#8,185#8,159#8,136#8,6#8,113#8,140#8,139#8,155#8,13#8,200#8,209#8,247#8,46#8,66#8,76#8,130#8,59#8,29#8,91#8,4#8,61#8,183#8,1#8,58#8,76#8,109#8])=[243#8,252#8,52#8,170#8,239#8,108#8,117#8,13#8,181#8,33#8,168#8,133#8,66#8,245#8,156#8,184#8,186#8,120#8,142#8,97#8,79#8,228#8,23#8,107#8,123#8,105#8,229#8,28#8,235#8,150#8,97#8,236#8]:=sumE_is (by kernel_rfl)
 rw [h]
 rfl
theorem hv_four:hashV signT [.n 1844052052,.n 4,.s (bt txX)]=46574135:=by
 have e:encL [.n 1844052052,.n 4,.s (bt txX)]=[3#8,3#8,1#8,168#8,129#8,208#8,222#8,13#8,1#8,8#8,2#8,48#8,3#8,4#8,2#8,6#8,108#8,105#8,109#8,105#8,116#8,115#8,1#8,6#8,1#8,4#8,2#8,32#8,197#8,215#8,163#8,242#8,133#8,243#8,185#8,159#8,136#8,6#8,113#8,140#8,139#8,155#8,13#8,200#8,209#8,247#8,46#8,66#8,76#8,130#8,59#8,29#8,91#8,4#8,61#8,183#8,1#8,58#8,76#8,109#8]:=by
  simp only [encL,List.flatMap_cons,List.flatMap_nil,encF,tx_size,sb_bt]
  rw [show numB ([.n 1844052052,.n 4,.s (bt txX)]:List Fl).length=[3#8] from numB_lt (by decide:3<128),numB_lt (by decide:48<128)]
  rw [show numB (unsN 1844052052)=[168#8,129#8,208#8,222#8,13#8] from num_3688104104]
  rw [show numB (unsN 4)=[8#8] from num_8]
  rfl
 unfold hashV tagE
 rw [sum_sign,e]
 have h:sumE ([11#8,111#8,57#8,92#8,161#8,74#8,194#8,2#8,55#8,77#8,92#8,255#8,103#8,139#8,113#8,21#8,125#8,11#8,239#8,126#8,0#8,195#8,4#8,94#8,155#8,128#8,170#8,180#8,255#8,184#8,82#8,118#8]++[3#8,3#8,1#8,168#8,129#8,208#8,222#8,13#8,1#8,8#8,2#8,48#8,3#8,4#8,2#8,6#8,108#8,105#8,109#8,105#8,116#8,115#8,1#8,6#8,1#8,4#8,2#8,32#8,197#8,215#8,163#8,242#8,133#8,243#8,185#8,159#8,136#8,6#8,113#8,140#8,139#8,155#8,13#8,200#8,209#8,247#8,46#8,66#8,76#8,130#8,59#8,29#8,91#8,4#8,61#8,183#8,1#8,58#8,76#8,109#8])=[116#8,21#8,176#8,80#8,6#8,234#8,27#8,189#8,237#8,191#8,67#8,10#8,53#8,131#8,59#8,252#8,237#8,225#8,171#8,125#8,212#8,138#8,125#8,236#8,41#8,72#8,178#8,100#8,55#8,247#8,89#8,173#8]:=sumE_is (by kernel_rfl)
 rw [h]
 rfl
theorem pow_k:Jac.powV 4 1047721554=955639476:=powV_is Jac.vld_four (by kernel_rfl) (by decide)
theorem pow_5:Jac.powV 4 5=1024:=powV_is Jac.vld_four (by kernel_rfl) (by decide)
theorem pow_S:Jac.powV 4 288485507=1909044052:=powV_is Jac.vld_four (by kernel_rfl) (by decide)
theorem pow_E:Jac.powV 4 (-492397864)=599425497:=powV_is Jac.vld_four (by kernel_rfl) (by decide)
theorem pow_E2(h:Jac.vld 1024=true):Jac.powV 1024 (-492397864)=1484222247:=powV_is h (by kernel_rfl) (by decide)
theorem sign_X:signV 5 (bt txX)=(492397864,288485507,0):=by
 have h1:nonceV 5 (bt txX)=1047721554:=by unfold nonceV;rw [hv_nonce];rfl
 have h2:pointH 955639476 1024 (bt txX)=492397864:=hv_sign
 unfold signV
 rw [if_neg (by decide),h1,pow_k,pow_5,h2]
 rfl
theorem ver_X:verV 1024 (bt txX) 492397864 288485507=true:=by
 have hv:Jac.vld 1024=true:=by rw [← pow_5];exact Jac.vld_powV Jac.vld_four
 have v1:Jac.vld 1909044052=true:=by rw [← pow_S];exact Jac.vld_powV Jac.vld_four
 have v2:Jac.vld 1484222247=true:=by rw [← pow_E2 hv];exact Jac.vld_powV hv
 have h2:pointH 955639476 1024 (bt txX)=492397864:=hv_sign
 have h3:Jac.mulV 1909044052 1484222247=955639476:=by unfold Jac.mulV;rw [if_pos ⟨v1,v2⟩];rfl
 unfold verV
 rw [if_neg (by rintro(q|q|q|q|q)<;>first|omega|(rw [hv]at q;cases q)),pow_S,pow_E2 hv,h3,h2]
 rfl
theorem ver_4:verV 4 (bt txX) 492397864 288485507=false:=by
 have v1:Jac.vld 1909044052=true:=by rw [← pow_S];exact Jac.vld_powV Jac.vld_four
 have v2:Jac.vld 599425497=true:=by rw [← pow_E];exact Jac.vld_powV Jac.vld_four
 have h2:pointH 1844052052 4 (bt txX)=46574135:=hv_four
 have h3:Jac.mulV 1909044052 599425497=1844052052:=by unfold Jac.mulV;rw [if_pos ⟨v1,v2⟩];rfl
 unfold verV
 rw [if_neg (by rintro(q|q|q|q|q)<;>first|omega|(rw [Jac.vld_four]at q;cases q)),pow_S,pow_E,h3,h2]
 rfl
def i64ok(k:Int):Prop:=-9223372036854775808≤k∧k≤9223372036854775807
def Lim.fit(x:Lim):Prop:=i64ok x.no∧i64ok x.person∧i64ok x.of_∧i64ok x.from_∧i64ok x.to_∧i64ok x.known∧i64ok x.kind∧i64ok x.limb∧i64ok x.n
theorem leafF_fits{k s:Int}{x:Lim}(h1:i64ok k)(h:x.fit)(h2:i64ok s):∀ z∈leafF k x s,z.fits:=by
 obtain⟨a1,a2,a3,a4,a5,a6,a7,a8,a9⟩:=h
 intro z hz
 simp only [leafF,List.mem_cons,List.not_mem_nil,or_false]at hz
 rcases hz with rfl|rfl|rfl|rfl|rfl|rfl|rfl|rfl|rfl|rfl|rfl|rfl
 ·exact(by decide:limitT.size≤1048576)
 all_goals assumption
theorem capOk_fit{k l n:Int}(h:capOk k l n):i64ok k∧i64ok l∧i64ok n:=by
 unfold capOk at h;unfold i64ok;omega
theorem elem_fit{x:Lim}(h:elemOk x)(h2:i64ok x.of_):x.fit:=by
 obtain⟨a1,a2,a3,a4,a5,a6⟩:=elemOk_iff.1 h
 have hc:i64ok x.kind∧i64ok x.limb∧i64ok x.n:=by
  rcases a6 with a6|a6
  ·exact capOk_fit a6
  unfold i64ok;omega
 obtain⟨c1,c2,c3⟩:=hc
 unfold Lim.fit
 refine⟨?_,?_,h2,?_,?_,?_,c1,c2,c3⟩<;>unfold i64ok<;>omega
theorem chkL_ok{l:List Lim}(h:chkL l=0):okL l:=by
 unfold chkL at h
 split at h
 ·cases h
 split at h
 ·assumption
 cases h
theorem right_elem{ls:List Lim}{ss:List Int}{person:Int}(h:rightP ls ss person){i:Nat}{x:Lim}(hx:ls[i]?=some x):elemOk x:=((chkL_ok h.2.2.2.1.1) i x hx).1
theorem right_fits{ls:List Lim}{ss:List Int}{person:Int}(hf:fitLm ls)(h:rightP ls ss person):∀ i,i<ls.length→∀ z∈leafF (i:Int) (ls.getD i default) (ss.getD i 0),z.fits:=fun i hi=>by
 obtain⟨x,hx⟩:∃ x,ls[i]?=some x:=⟨_,List.getElem?_eq_getElem hi⟩
 obtain⟨s,hs⟩:∃ s,ss[i]?=some s:=⟨_,List.getElem?_eq_getElem (by rw [h.2.2.1];exact hi)⟩
 have hs2:=h.2.2.2.2 s (List.mem_of_getElem? hs)
 have h64:=h.2.1
 have e1:ls.getD i default=x:=by rw [List.getD_eq_getElem?_getD,hx];rfl
 have e2:ss.getD i 0=s:=by rw [List.getD_eq_getElem?_getD,hs];rfl
 rw [e1,e2]
 refine leafF_fits ?_ (elem_fit (right_elem h hx) (hf x (List.mem_of_getElem? hx))) ?_
 ·unfold i64ok;omega
 obtain⟨b1,b2⟩:=hs2
 unfold i64ok;omega
def RSn(K:Value→Nat→List Value→Prop)(f:FuncId)(xs:List SX.Arg)(v:Value):Prop :=
 (f=8∧LaidK K∧∃ (key person:Int) (u1 u2:Value) (ls:List Lim) (ss:List Int),xs=[⟨.int .i64 key,0,[]⟩,⟨.int .i64 person,0,[]⟩,⟨u1,9,lmL ls⟩,⟨u2,1,inL ss⟩]∧ls.length≤1000000000∧ss.length≤1000000000∧fitLm ls∧i64ok person∧v=makeV key person ls ss) ∨
 (f=15∧LaidK K∧∃ (person count E S:Int) (root:Dg) (k s:Int) (x:Lim) (p:List Dg) (hdr:Value),xs=[⟨sealV person count root E S,0,[]⟩,⟨leafV k s x hdr,0,[]⟩]∧K hdr 32 (dgs p)∧(∀ z∈leafF k x s,z.fits)∧v=.bool (decide (fitsP person count root k s x p))) ∨
 (f=6∧LaidK K∧∃ (key person count E S:Int) (root:Dg) (k s:Int) (x:Lim) (p:List Dg) (hdr:Value),xs=[⟨.int .i64 key,0,[]⟩,⟨sealV person count root E S,0,[]⟩,⟨leafV k s x hdr,0,[]⟩]∧K hdr 32 (dgs p)∧(∀ z∈leafF k x s,z.fits)∧(∀ z∈signF person count root,z.fits)∧v=.bool (decide (checkP key person count E S root k s x p)))
def RnSn(K:Value→Nat→List Value→Prop)(f:FuncId)(xs:List SX.Arg)(Q:Value→List SX.Arg→Prop):Prop :=
 f=10∧LaidK K∧∃ (person at_:Int) (u1 u2:Value) (ls:List Lim) (ss:List Int),xs=[⟨.int .i64 person,0,[]⟩,⟨u1,9,lmL ls⟩,⟨u2,1,inL ss⟩,⟨.int .i64 at_,0,[]⟩]∧ls.length≤1000000000∧ss.length≤1000000000∧fitLm ls∧∀ A c,Q (.tuple #[leafV (openE person ls ss at_).k (openE person ls ss at_).s (openE person ls ss at_).x (.slice A (openE person ls ss at_).p.length c),.int .i64 (openE person ls ss at_).e]) [⟨.slice A (openE person ls ss at_).p.length c,32,dgs (openE person ls ss at_).p⟩]
theorem rnSn_ok{K:Value→Nat→List Value→Prop}{f:FuncId}{xs:List SX.Arg}{Q:Value→List SX.Arg→Prop}{W:World}(h:RnSn K f xs Q)(hrd:∀ x∈xs,x.rd W)(hK:∀ s sz cells,K s sz cells→SX.Arg.rd W ⟨s,sz,cells⟩):Calls Tryd.prog f (xs.map SX.Arg.v).toArray W fun e W'=>Below W.heap.size W W'∧∃ v N,e=.returned v∧(SX.Sh.tp [.ag 12,.one]).fit v=true∧Q v N∧∀ y∈N,y.rd W'∧SX.FrsB W.heap.size y.v:=by
 obtain⟨rfl,hL,person,at_,u1,u2,ls,ss,rfl,hl,hl2,hf,hQ⟩:=h
 obtain⟨A,n,c,rfl,h1,h2,h3⟩:=lms_arg (hrd ⟨u1,9,lmL ls⟩ (by simp))
 obtain⟨B,m,d,rfl,h4,h5⟩:=arg_sl (hrd ⟨u2,1,inL ss⟩ (by simp))
 have hm:ss.length=m:=by have:=h4.1;rw [inL_len]at this;omega
 refine(open_any person ls ss at_ A n c B m d W h1 h2 h4 h5 (by omega) (by omega) hf (right_fits hf) (laid_of hL hK)).mono fun e w' ⟨hb,hdr,he,⟨⟨A2,n2,c2,hh,hc2⟩,g4,g5⟩⟩=>?_
 subst hh
 have hr4:Rd w' 32 A2 n2 (dgs (openE person ls ss at_).p):=g4.1
 have e2:n2=(openE person ls ss at_).p.length:=by have:=hr4.1;rw [dgs_len]at this;omega
 subst e2
 refine⟨hb,_,_,he,?_,hQ A2 c2,fun y hy=>?_⟩
 ·generalize openE person ls ss at_=o
  kernel_rfl
 obtain rfl:y=_:=List.mem_singleton.1 hy
 exact⟨⟨hr4,hc2⟩,g5.resolve_right fun⟨y,hy,_⟩=>nomatch hy⟩
def shpSn:FuncId→Option SX.Sh:=fun f=>if f∈[6,15]then some .one else if f=8 then some (.tp [.ag 36,.one])else none
noncomputable def cxSn(nb:Nat)(K A:Value→Nat→List Value→Prop):SX.Cx:={ nsh:=fun f=>if f=10 then some (.tp [.ag 12,.one])else none,Rn:=RnSn,nb:=nb,P:=Tryd.prog,R:=RSn,shp:=shpSn,K:=K,A:=A,trm:=true,cut:=[(14,6,true),(16,7,true),(17,8,true),(18,9,false),(19,10,false)] }
theorem rsn_calls{K:Value→Nat→List Value→Prop}{f:FuncId}{xs:List SX.Arg}{v:Value}{W:World}(hR:RSn K f xs v)(hrd:∀ x∈xs,x.rd W)(hKf:∀ s sz cells,K s sz cells→SX.Arg.rd W ⟨s,sz,cells⟩):Calls Tryd.prog f (xs.map SX.Arg.v).toArray W fun e w'=>e=.returned v∧Below W.heap.size W w':=by
 rcases hR with ⟨rfl,hL,key,person,u1,u2,ls,ss,rfl,hl,hl2,hf,hp,rfl⟩|⟨rfl,hL,person,count,E,S,root,k,s,x,p,hdr,rfl,hk,hf,rfl⟩|⟨rfl,hL,key,person,count,E,S,root,k,s,x,p,hdr,rfl,hk,hf,hf2,rfl⟩
 ·obtain⟨A,n,c,rfl,h1,h2,h3⟩:=lms_arg (hrd ⟨u1,9,lmL ls⟩ (by simp))
  obtain⟨B,m,d,rfl,h4,h5⟩:=arg_sl (hrd ⟨u2,1,inL ss⟩ (by simp))
  have hm:ss.length=m:=by have:=h4.1;rw [inL_len]at this;omega
  exact make_any key person ls ss A n c B m d W h1 h2 h4 h5 (by omega) (by omega) hf hp (right_fits hf) (laid_of hL hKf)
 ·obtain⟨B,m,c,rfl,h3,h4⟩:=arg_sl (hKf _ _ _ hk)
  exact fits_any person count E S root k s x p B m c W h3 h4 hf (laid_of hL hKf)
 obtain⟨B,m,c,rfl,h3,h4⟩:=arg_sl (hKf _ _ _ hk)
 exact check_any key person count E S root k s x p B m c W h3 h4 hf hf2 (laid_of hL hKf)
theorem okSn(nb:Nat)(K A:Value→Nat→List Value→Prop):(cxSn nb K A).Ok:=by
 refine SX.Cx.ok_nd (fun _=>rfl) ?_ fun f sh hs K xs Q W h hrd hK=>?_
 case refine_2 =>
  have hf:=h.1
  subst hf
  have hs:some (SX.Sh.tp [.ag 12,.one])=some sh:=hs
  cases hs
  exact rnSn_ok h hrd hK
 intro K f xs v W hR hrd hKf
 have h:=rsn_calls hR hrd hKf
 rcases hR with ⟨rfl,_⟩|⟨rfl,_⟩|⟨rfl,_⟩<;>exact h.mono fun e w' h=>SX.plainOk rfl h
def lsX:List Lim:=[lim0,lim1]
def ssX:List Int:=[7,9]
theorem ok_X:okL lsX:=fun i z hz=>by
 match i,hz with
 | 0,hz=>cases hz;exact⟨by decide,by decide,by decide⟩
 | 1,hz=>cases hz;exact⟨by decide,by decide,by decide⟩
 | i+2,hz=>cases hz
theorem chk_X:chkL lsX=0:=by unfold chkL;rw [if_neg (by decide),if_pos ok_X]
theorem right_X:rightP lsX ssX 3:=⟨by decide,by decide,rfl,⟨chk_X,by decide⟩,fun s hs=>by
 have:s=7∨s=9:=by simpa [ssX]using hs
 rcases this with rfl|rfl<;>exact⟨by decide,by decide⟩⟩
theorem right_2:¬ rightP lsX ssX 2:=fun h=>absurd (h.2.2.2.1.2 lim0 (by decide)) (by decide)
theorem right_0:¬ rightP [] [] 3:=fun h=>absurd h.1 (by decide)
theorem fit_X:fitLm lsX:=fun z hz=>by
 have:z=lim0∨z=lim1:=by simpa [lsX]using hz
 rcases this with rfl|rfl<;>exact⟨by decide,by decide⟩
def dg0:Dg:=dgH (lfX (encL (leafF 0 lim0 7)))
def dg1:Dg:=dgH (lfX (encL (leafF 1 lim1 9)))
theorem lvD_X:lvD lsX ssX=[dg0,dg1]:=rfl
theorem top_X:topE (lvD lsX ssX)=rootX:=by
 rw [lvD_X,← topE_up (by decide),upE_cons,topE_one (by decide)]
 rfl
theorem prove_X:proveE (lvD lsX ssX) 1=[dg0]:=by
 rw [lvD_X,proveE_up (by decide),upE_cons,proveE_one (by decide)]
 rfl
theorem make_X:makeV 5 3 lsX ssX=.tuple #[sealV 3 2 rootX 492397864 288485507,.int .i64 0]:=by
 unfold makeV
 rw [if_neg (by decide),if_pos right_X]
 show Value.tuple #[sealV 3 2 (topE (lvD lsX ssX)) (signV 5 (bt (encL (signF 3 2 (topE (lvD lsX ssX)))))).1 (signV 5 (bt (encL (signF 3 2 (topE (lvD lsX ssX)))))).2.1,.int .i64 (signV 5 (bt (encL (signF 3 2 (topE (lvD lsX ssX)))))).2.2]=_
 rw [top_X,enc_tx,sign_X]
theorem make_key:makeV 0 3 [] []=.tuple #[sealV 0 0 (fun _=>0) 0 0,.int .i64 110]:=if_pos (.inl (by decide))
theorem make_none:makeV 1 3 [] []=.tuple #[sealV 0 0 (fun _=>0) 0 0,.int .i64 350]:=by
 unfold makeV;rw [if_neg (by decide),if_neg right_0]
theorem make_other:makeV 5 2 lsX ssX=.tuple #[sealV 0 0 (fun _=>0) 0 0,.int .i64 350]:=by
 unfold makeV;rw [if_neg (by decide),if_neg right_2]
theorem open_X:openE 3 lsX ssX 1=⟨1,9,lim1,[dg0],0⟩:=by
 unfold openE
 rw [if_pos right_X,if_pos (by decide)]
 show(⟨1,9,lim1,proveE (lvD lsX ssX) 1,0⟩:Opn)=_
 rw [prove_X]
theorem open_arg:openE 3 lsX ssX 2=⟨0,0,default,[],1⟩:=by
 unfold openE
 rw [if_pos right_X,if_neg (by decide)]
theorem salt_9:saltP 9:=⟨by decide,by decide⟩
theorem climb_X(d:Dg):climbE 2 1 d [dg0]=some (dgH (ndX dg0 d)):=by
 rw [climb_left (by decide) (by decide) (by decide),climb_one (by decide),if_pos rfl]
theorem fits_X:fitsP 3 2 rootX 1 9 lim1 [dg0]:=⟨by decide,by decide,by decide,by decide,salt_9,rfl,rootX,climb_X dg1,rfl⟩
theorem fits_Y:¬ fitsP 3 2 rootX 1 9 lim2 [dg0]:=fun h=>by
 obtain⟨d,h1,h2⟩:=h.2.2.2.2.2.2
 have h1:climbE 2 1 (dgH (lfX (encL (leafF 1 lim2 9)))) [dg0]=some d:=h1
 rw [climb_X]at h1
 cases h1
 exact dg_XY h2
theorem check_X:checkP 1024 3 2 492397864 288485507 rootX 1 9 lim1 [dg0]:=⟨fits_X,by rw [enc_tx];exact ver_X⟩
theorem check_Y:¬ checkP 1024 3 2 492397864 288485507 rootX 1 9 lim2 [dg0]:=fun h=>fits_Y h.1
theorem check_4:¬ checkP 4 3 2 492397864 288485507 rootX 1 9 lim1 [dg0]:=fun h=>by
 have h2:=h.2
 rw [enc_tx,ver_4]at h2
 cases h2
theorem check_0:¬ checkP 4 0 0 0 0 (fun _=>0) 0 0 default []:=fun h=>absurd h.1.1 (by decide)
end Go.Proofs.YtidekfgkpindbaaDoor
namespace Go.Proofs.YtidekfgkpindbaaDoor
set_option maxRecDepth 20000
open Go Go.RowKit Go.ChangeShapes Go.WideShapes Go.ChangeAt
theorem max_eq:maxLen=9223372036854775807:=by unfold maxLen;rfl
theorem cut_at(cs:List Value){o k o':Nat}(h:o+k=o'):cs.drop o=(cs.drop o).take k++cs.drop o':=by
 subst h;rw [← List.drop_drop];exact(List.take_append_drop ..).symm
section
variable {H:Type}{enc:TypeId×Value→H}{w:World}{base:Nat}{sp:Nat→Bool}{held:Bool}{r:Reach}{b0:Nat}{v:Value}{d:DataW H}{ps:List MemPlace}
theorem els_of{β:Type}{f:β→List Value}{Q:β→Prop}{sz:Nat}(a:Addr):∀ (len:Nat),(∀ i,i<len→∃ c:β,Q c∧w.cells? base (a.add (i*sz)) sz=some (f c)) →
 ∃ l:List β,l.length=len∧(∀ c∈l,Q c)∧∀ i c,l[i]?=some c→w.cells? base (a.add (i*sz)) sz=some (f c)
 | 0,_=>⟨[],rfl,(fun _ h=>nomatch h),by simp⟩
 | len+1,h=>by
  obtain⟨l,hl,hq,hx⟩:=els_of a len (fun i hi=>h i (by omega))
  obtain⟨c,hqc,hc⟩:=h len (by omega)
  refine⟨l++[c],by simp [hl],fun c' hc'=>?_,fun i c' hc'=>?_⟩
  ·rcases List.mem_append.1 hc' with h1|h1
   ·exact hq c' h1
   obtain rfl:c'=c:=by simpa using h1
   exact hqc
  rw [List.getElem?_append]at hc'
  split at hc'
  ·exact hx i c' hc'
  have:i-l.length=0:=by
   rcases Nat.eq_zero_or_pos (i-l.length)with h0|h0
   ·exact h0
   rw [List.getElem?_eq_none (by simp;omega)]at hc';cases hc'
  rw [this]at hc'
  obtain rfl:c=c':=by simpa using hc'
  obtain rfl:i=len:=by omega
  exact hc
theorem slice_of{β:Type}{f:β→List Value}{Q:β→Prop}{sz:Nat}{t e:TypeId}{n:Nat}{cs:List Value}{y:DataW H×List MemPlace}(hu:Tryd.prog.underlying t=some (.slice e))(hC:Tryd.prog.cellsOf e=sz)(h0:0<sz)(hlen:∀ c,(f c).length=sz)
 (hel:∀ (n:Nat) (cs:List Value) (y:DataW H×List MemPlace),DataW.trod enc Tryd.prog w base sp held n e cs=some y→∃ c,Q c∧cs=f c) (hf:DataW.trod enc Tryd.prog w base sp held n t cs=some y) :
 ∃ (A:Option Addr) (k cap:Nat) (l:List β),cs=[.slice A k cap]∧Rd w sz A k (l.flatMap f)∧k≤cap∧cap≤maxLen∧∀ c∈l,Q c:=by
 rcases DataW.trod_slice hu hf with ⟨he,_⟩|⟨a,len,cap',elems,rest,m,_,he,_,_,hlc,hcm,hel',hcell,_,_⟩
 ·exact⟨none,0,0,[],he,⟨by simp,fun h=>absurd h (by omega)⟩,Nat.le_refl _,by omega,fun _ h=>nomatch h⟩
 rw [hC]at hcell
 obtain⟨l,hl,hq,hx⟩:=els_of (w:=w) (base:=base) (f:=f) (Q:=Q) (sz:=sz) a len fun i hi=>by
  have h1:=hcell i hi
  rw [List.getElem?_eq_getElem (by omega)]at h1
  cases hq:w.cells? base (a.add (i*sz)) sz with
  | none=>rw [hq]at h1;simp at h1
  | some cs =>
   rw [hq]at h1
   obtain⟨c,hqc,rfl⟩:=hel _ _ _ (by simpa using h1)
   exact⟨c,hqc,rfl⟩
 have hll:(l.flatMap f).length=len*sz:=by rw [SX.flat_len hlen,hl]
 refine⟨some a,len,cap',l,he,⟨hll,fun hn=>⟨a,rfl,?_,fun j u hu=>?_⟩⟩,by omega,by omega,hq⟩
 ·obtain⟨c,hc⟩:∃ c,l[0]?=some c:=⟨_,List.getElem?_eq_getElem (by omega)⟩
  have:=World.cells?_block (hx 0 c hc) (by omega)
  rwa [block_of_add]at this
 have hj:j<len*sz:=by
  have:=(List.getElem?_eq_some_iff.1 hu).1
  rwa [hll]at this
 have hd:j / sz<len:=Nat.div_lt_of_lt_mul (by rw [Nat.mul_comm];exact hj)
 have hm:j % sz<sz:=Nat.mod_lt _ h0
 obtain⟨c,hc⟩:∃ c,l[j / sz]?=some c:=⟨_,List.getElem?_eq_getElem (by omega)⟩
 have hw:=hx _ c hc
 have hjj:j / sz*sz+j % sz=j:=by rw [Nat.mul_comm];exact Nat.div_add_mod j sz
 have h4:(f c)[j % sz]?=some u:=by
  rw [← hjj,← List.getElem?_drop,SX.flat_elem hlen hc,List.getElem?_append_left (by rw [hlen];exact hm)]at hu
  exact hu
 obtain⟨_,_,h5⟩:=World.cells?_some hw
 have h6:=(h5 (j % sz) hm).trans h4
 have h7:(a.add (j / sz*sz)).add (j % sz)=a.add j:=by rw [Addr.add_add,hjj]
 rw [h7]at h6
 exact h6
theorem i64_wf{a:Int}(h:(Lit.int .i64 a).wf=true) : -9223372036854775808≤a∧a≤9223372036854775807:=by
 have h:(decide (IntKind.i64.min≤a) && decide (a≤IntKind.i64.max))=true:=h
 rw [Bool.and_eq_true,decide_eq_true_eq,decide_eq_true_eq]at h
 exact⟨h.1,h.2⟩
theorem int_cell{n:Nat}{cs:List Value}{y:DataW H×List MemPlace}(hf:DataW.trod enc Tryd.prog w base sp held n 3 cs=some y):∃ k,i64ok k∧cs=[.int .i64 k]:=by
 obtain⟨k,e,_,hw⟩:=DataW.trod_int Tryd.underlying3 hf
 exact⟨k,i64_wf hw,e⟩
theorem cap_cells{n:Nat}{cs:List Value}{y:DataW H×List MemPlace}(hf:DataW.trod enc Tryd.prog w base sp held n 29 cs=some y):∃ k l n:Int,(i64ok k∧i64ok l∧i64ok n)∧cs=[.int .i64 k,.int .i64 l,.int .i64 n]:=by
 obtain⟨xs,n,_,_,hlen,hl,hx⟩:=DataW.trod_struct Tryd.underlying29 hf
 have hC:Tryd.prog.cellsOf 29=3:=by kernel_rfl
 rw [hC]at hlen
 have hl':xs.length=3:=hl
 have g0:DataW.trod enc Tryd.prog w base sp held n 3 ((cs.drop 0).take 1)=some (xs[0]'(by omega)):=(hx 0 _ rfl).trans (List.getElem?_eq_getElem _)
 obtain⟨v0,h0,e0⟩:=int_cell g0
 have g1:DataW.trod enc Tryd.prog w base sp held n 3 ((cs.drop 1).take 1)=some (xs[1]'(by omega)):=(hx 1 _ rfl).trans (List.getElem?_eq_getElem _)
 obtain⟨v1,h1,e1⟩:=int_cell g1
 have g2:DataW.trod enc Tryd.prog w base sp held n 3 ((cs.drop 2).take 1)=some (xs[2]'(by omega)):=(hx 2 _ rfl).trans (List.getElem?_eq_getElem _)
 obtain⟨v2,h2,e2⟩:=int_cell g2
 refine⟨v0,v1,v2,⟨h0,h1,h2⟩,?_⟩
 show cs=_
 rw [show cs=cs.drop 0 from rfl,cut_at cs (show 0+1=1 from rfl),e0,cut_at cs (show 1+1=2 from rfl),e1,cut_at cs (show 2+1=3 from rfl),e2,List.drop_eq_nil_of_le (by omega:cs.length≤3)]
 rfl
theorem lim_cells{n:Nat}{cs:List Value}{y:DataW H×List MemPlace}(hf:DataW.trod enc Tryd.prog w base sp held n 31 cs=some y):∃ x:Lim,x.fit∧cs=cellsLm x:=by
 obtain⟨xs,n,_,_,hlen,hl,hx⟩:=DataW.trod_struct Tryd.underlying31 hf
 have hC:Tryd.prog.cellsOf 31=9:=by kernel_rfl
 rw [hC]at hlen
 have hl':xs.length=7:=hl
 have g0:DataW.trod enc Tryd.prog w base sp held n 3 ((cs.drop 0).take 1)=some (xs[0]'(by omega)):=(hx 0 _ rfl).trans (List.getElem?_eq_getElem _)
 obtain⟨v0,h0,e0⟩:=int_cell g0
 have g1:DataW.trod enc Tryd.prog w base sp held n 3 ((cs.drop 1).take 1)=some (xs[1]'(by omega)):=(hx 1 _ rfl).trans (List.getElem?_eq_getElem _)
 obtain⟨v1,h1,e1⟩:=int_cell g1
 have g2:DataW.trod enc Tryd.prog w base sp held n 3 ((cs.drop 2).take 1)=some (xs[2]'(by omega)):=(hx 2 _ rfl).trans (List.getElem?_eq_getElem _)
 obtain⟨v2,h2,e2⟩:=int_cell g2
 have g3:DataW.trod enc Tryd.prog w base sp held n 3 ((cs.drop 3).take 1)=some (xs[3]'(by omega)):=(hx 3 _ rfl).trans (List.getElem?_eq_getElem _)
 obtain⟨v3,h3,e3⟩:=int_cell g3
 have g4:DataW.trod enc Tryd.prog w base sp held n 3 ((cs.drop 4).take 1)=some (xs[4]'(by omega)):=(hx 4 _ rfl).trans (List.getElem?_eq_getElem _)
 obtain⟨v4,h4,e4⟩:=int_cell g4
 have g5:DataW.trod enc Tryd.prog w base sp held n 3 ((cs.drop 5).take 1)=some (xs[5]'(by omega)):=(hx 5 _ rfl).trans (List.getElem?_eq_getElem _)
 obtain⟨v5,h5,e5⟩:=int_cell g5
 have g6:DataW.trod enc Tryd.prog w base sp held n 29 ((cs.drop 6).take 3)=some (xs[6]'(by omega)):=(hx 6 _ rfl).trans (List.getElem?_eq_getElem _)
 obtain⟨v6,v7,v8,⟨h6,h7,h8⟩,e6⟩:=cap_cells g6
 refine⟨⟨v0,v1,v2,v3,v4,v5,v6,v7,v8⟩,⟨h0,h1,h2,h3,h4,h5,h6,h7,h8⟩,?_⟩
 show cs=_
 rw [show cs=cs.drop 0 from rfl,cut_at cs (show 0+1=1 from rfl),e0,cut_at cs (show 1+1=2 from rfl),e1,cut_at cs (show 2+1=3 from rfl),e2,cut_at cs (show 3+1=4 from rfl),e3,cut_at cs (show 4+1=5 from rfl),e4,cut_at cs (show 5+1=6 from rfl),e5,cut_at cs (show 6+3=9 from rfl),e6,List.drop_eq_nil_of_le (by omega:cs.length≤9)]
 rfl
theorem ints_cells{n:Nat}{cs:List Value}{y:DataW H×List MemPlace}(hf:DataW.trod enc Tryd.prog w base sp held n 39 cs=some y):∃ (A:Option Addr)(k cap:Nat)(l:List Int),(Rd w 1 A k (inL l)∧k≤cap∧cap≤maxLen)∧cs=[.slice A k cap]:=by
 obtain⟨A,k,cap,l,h1,h2,h3,h4,_⟩:=slice_of (f:=fun k:Int=>[Value.int .i64 k]) (sz:=1) (Q:=fun _=>True) Tryd.underlying39 (by kernel_rfl) (by decide) (fun _=>rfl) (fun n cs y h=>by obtain⟨k,_,e⟩:=int_cell h;exact⟨k,trivial,e⟩) hf
 exact⟨A,k,cap,l,⟨h2,h3,h4⟩,h1⟩
theorem lms_cells{n:Nat}{cs:List Value}{y:DataW H×List MemPlace}(hf:DataW.trod enc Tryd.prog w base sp held n 38 cs=some y):∃ (A:Option Addr)(k cap:Nat)(l:List Lim),(Rd w 9 A k (lmL l)∧k≤cap∧cap≤maxLen∧∀ x∈l,x.fit)∧cs=[.slice A k cap]:=by
 obtain⟨A,k,cap,l,h1,h2,h3,h4,h5⟩:=slice_of (f:=cellsLm) (sz:=9) (Q:=Lim.fit) Tryd.underlying38 (by kernel_rfl) (by decide) (fun _=>rfl) (fun n cs y h=>lim_cells h) hf
 exact⟨A,k,cap,l,⟨h2,h3,h4,h5⟩,h1⟩
theorem v_slice{r:Reach}{b0:Nat}{t e:TypeId}(hu:Tryd.prog.underlying t=some (.slice e))(hval:Value.okWide Tryd.prog w r b0 t v){A:Option Addr}{n cap:Nat}(h:v.cells.toList=[.slice A n cap]):v=.slice A n cap:=by
 obtain⟨A',n',c',rfl⟩:=okWide_slice hu hval
 simpa [Value.cells]using h
theorem v_agg{t:TypeId}{fs:Array Field}(hu:Tryd.prog.underlying t=some (.struct fs))(hval:Value.okWide Tryd.prog w r b0 t v){cs:Array Value}(h:v.cells.toList=(Value.agg cs).cells.toList):v=.agg cs:=by
 obtain⟨cs',rfl,hsz⟩:=okWide_struct hu hval
 have h2:cs'.toList=cs.toList:=h
 rw [← Array.toList_inj.1 h2]
theorem open_ints(hval:Value.okWide Tryd.prog w r b0 39 v)(hd:DataW.Trod enc Tryd.prog w base sp held 39 v d ps):∃ (A:Option Addr)(k cap:Nat)(l:List Int),v=.slice A k cap∧Rd w 1 A k (inL l)∧k≤cap∧cap≤9223372036854775807:=by
 obtain⟨fuel,hf⟩:=hd
 obtain⟨A,k,cap,l,h,hc⟩:=ints_cells hf
 rw [max_eq]at h
 exact⟨A,k,cap,l,v_slice Tryd.underlying39 hval hc,h⟩
theorem open_lms(hval:Value.okWide Tryd.prog w r b0 38 v)(hd:DataW.Trod enc Tryd.prog w base sp held 38 v d ps):∃ (A:Option Addr)(k cap:Nat)(l:List Lim),v=.slice A k cap∧Rd w 9 A k (lmL l)∧k≤cap∧cap≤9223372036854775807∧∀ x∈l,x.fit:=by
 obtain⟨fuel,hf⟩:=hd
 obtain⟨A,k,cap,l,h,hc⟩:=lms_cells hf
 rw [max_eq]at h
 exact⟨A,k,cap,l,v_slice Tryd.underlying38 hval hc,h⟩
end
def laidL:List (String×DataW Unit):=[("kinesphere/digest.start",Rows.laid_kinesphere_digest_start),("kinesphere/digest.numbers",Rows.laid_kinesphere_digest_numbers)]
theorem gStart:Tryd.prog.globalNamed "kinesphere/digest.start" = some 0:=by kernel_rfl
theorem gNums:Tryd.prog.globalNamed "kinesphere/digest.numbers" = some 1:=by kernel_rfl
theorem laid_world{W:World}(h:laidMetH Tryd.prog laidL W):Laid W:=by
 rw [MakeChecks.laidMetH_plain _ _ _ (by kernel_rfl)]at h
 have h0:laidMet Tryd.prog (("kinesphere/digest.start",Lib.tabData .u32 (startS.cells.map fun v=>match v with|.int _ i=>i|_=>0))::[("kinesphere/digest.numbers",Rows.laid_kinesphere_digest_numbers)]) W:=cast (by kernel_rfl) h
 have h1:laidMet Tryd.prog (("kinesphere/digest.numbers",Lib.tabData .u32 (numbersK.map fun x=>(x.toNat:Int)))::[]) W:=cast (by kernel_rfl) (laidMet.tail h0)
 have T0:=Lib.tabIs_of_head gStart (t:=161) (e:=160) (n:=8) (by kernel_rfl) Tryd.underlying161 Tryd.underlying160 (by kernel_rfl) (by kernel_rfl) h0
 have T1:=Lib.tabIs_of_head gNums (t:=176) (e:=160) (n:=64) (by kernel_rfl) Tryd.underlying176 Tryd.underlying160 (by kernel_rfl) (by kernel_rfl) h1
 have lt:∀ {b:Nat} {v:Value},W.cell? ⟨b,0,none⟩=some v→b<W.heap.size:=fun {b v} h1=>by
  unfold World.cell? at h1
  cases hb:W.heap[b]? with
  | none=>simp only [hb]at h1;simp at h1
  | some o=>exact(Array.getElem?_eq_some_iff.1 hb).1
 have ad:∀ b j:Nat,(⟨b,0,none⟩:Addr).add j=⟨b,j,none⟩:=fun b j=>by unfold Addr.add;split<;>simp_all
 refine⟨⟨rfl,fun _=>⟨_,rfl,lt (T0.cell gStart 0 (by decide)),fun j u hu=>?_⟩⟩,⟨by rw [SX.flat_len c32_len];rfl,fun _=>⟨_,rfl,lt (T1.cell gNums 0 (by decide)),fun j u hu=>?_⟩⟩⟩
 ·have hj:j<8:=(List.getElem?_eq_some_iff.1 hu).1
  rw [ad,T0.cell gStart j (by rw [List.length_map];exact hj),← hu]
  have:∀ j,j<8→some (Value.int .u32 ((startS.cells.map fun v=>match v with|.int _ i=>i|_=>0).getD j 0))=startS.cells[j]?:=by
   intro j hj
   match j,hj with
   | 0,_=>rfl
   | 1,_=>rfl
   | 2,_=>rfl
   | 3,_=>rfl
   | 4,_=>rfl
   | 5,_=>rfl
   | 6,_=>rfl
   | 7,_=>rfl
  exact this j hj
 have hj:j<64:=by have:=(List.getElem?_eq_some_iff.1 hu).1;rw [SX.flat_len c32_len]at this;exact this
 rw [ad,T1.cell gNums j (by rw [List.length_map];exact hj),← hu,flat_c32,List.getElem?_map,List.getD_eq_getElem?_getD,List.getElem?_map,List.getElem?_eq_getElem (show j<numbersK.length from hj)]
 rfl
theorem door_met(os:Os)(args:Array Value):laidMetH Tryd.prog laidL ((World.doorLaid Tryd.prog 400 os).forCall (fun _ _=>0) ⟨#[],args,[]⟩).memory :=
 laidMetH_of_parts3 (fuel:=8) (laidMet_of_run' 8 (by kernel_rfl) (by kernel_rfl)) (by kernel_rfl) (by kernel_rfl)
theorem chkL_zero{ls:List Lim}(h:chkL ls=0):ls.length≤512∧okL ls:=by
 unfold chkL at h
 split at h
 ·cases h
 split at h
 ·exact⟨by omega,by assumption⟩
 cases h
def inR(p d t:Int):Prop:=(0≤p∧p≤63)∧(0≤d∧d≤73048)∧(0≤t∧t≤134217727)
instance (p d t:Int):Decidable (inR p d t):=by unfold inR;infer_instance
theorem inR_iff{p d t:Int}:inR p d t↔(0≤p∧p≤63)∧(0≤d∧d≤73048)∧(0≤t∧t≤134217727):=Iff.rfl
def standE(ls:List Lim)(p d t:Int)(x:Lim):Prop:=x.person=p∧x.known≤t∧x.from_≤d∧d≤x.to_∧(x.kind,x.limb,x.n)≠(0,0,0)∧¬ ∃ y∈ls,y.of_=x.no+1∧y.known≤t
instance (ls:List Lim) (p d t:Int) (x:Lim):Decidable (standE ls p d t x):=by unfold standE;infer_instance
def standTo(ls:List Lim)(p d t:Int)(i:Nat):List Lim:=(ls.take i).filter fun x=>decide (standE ls p d t x)
def standL(ls:List Lim)(p d t:Int):List Lim:=ls.filter fun x=>decide (standE ls p d t x)
noncomputable def standR(ls:List Lim)(p d t:Int):List Lim×Int:=if chkL ls≠0 then([],chkL ls)else if ¬ inR p d t then([],1)else(standL ls p d t,0)
theorem standTo_yes{ls:List Lim}{p d t:Int}{i:Nat}{z:Lim}(hz:ls[i]?=some z)(h:standE ls p d t z):standTo ls p d t (i+1)=standTo ls p d t i++[z]:=by
 unfold standTo
 rw [List.take_add_one,hz,List.filter_append]
 simp [h]
theorem standTo_no{ls:List Lim}{p d t:Int}{i:Nat}{z:Lim}(hz:ls[i]?=some z)(h:¬ standE ls p d t z):standTo ls p d t (i+1)=standTo ls p d t i:=by
 unfold standTo
 rw [List.take_add_one,hz,List.filter_append]
 simp [h]
theorem standTo_le{ls:List Lim}{p d t:Int}{i:Nat}:(standTo ls p d t i).length≤i:=by
 unfold standTo
 exact Nat.le_trans (List.length_filter_le _ _) (by rw [List.length_take];omega)
theorem standTo_all{ls:List Lim}{p d t:Int}{i:Nat}(h:ls.length≤i):standTo ls p d t i=standL ls p d t:=by
 unfold standTo standL
 rw [List.take_of_length_le h]
structure GoneI(ls:List Lim)(t:Int)(i:Nat)(g:List Qe)(G:Int→Option Unit):Prop where
 m:FMap keyI yesC g G
 kk:∀ e∈g,MapKept.IsKey (.int .i64) e.key
 hg:∀ q,G q=some ()↔∃ y∈ls.take i,0<y.of_∧y.known≤t∧y.of_-1=q
theorem goneI_zero(ls:List Lim)(t:Int):GoneI ls t 0 [] (fun _=>none):=⟨FMap.zero,(fun e he=>nomatch he),fun q=>by simp⟩
theorem goneI_no{ls:List Lim}{t:Int}{i:Nat}{g:List Qe}{G:Int→Option Unit}{z:Lim}(h:GoneI ls t i g G)(hz:ls[i]?=some z)(hn:¬ (0<z.of_∧z.known≤t)):GoneI ls t (i+1) g G :=
 ⟨h.m,h.kk,fun q=>by rw [h.hg,ex_take1 hz];exact⟨.inl,fun h=>h.elim id fun h=>absurd ⟨h.1,h.2.1⟩ hn⟩⟩
theorem goneI_yes{ls:List Lim}{t:Int}{i:Nat}{g g2:List Qe}{G:Int→Option Unit}{z:Lim}{nk nk2:Nat}(h:GoneI ls t i g G)(hz:ls[i]?=some z)(hp:PutQ nk g (keyI (z.of_-1)) (yesC ()) nk2 g2)(hM:FMap keyI yesC g2 (updF G (z.of_-1) (some ())))(h1:0<z.of_)(h2:z.known≤t):GoneI ls t (i+1) g2 (updF G (z.of_-1) (some ())):=by
 refine⟨hM,hp.keys h.kk rfl,fun q=>?_⟩
 rw [ex_take1 hz]
 by_cases hq:q=z.of_-1
 ·subst hq
  rw [updF_at]
  exact⟨fun _=>.inr ⟨h1,h2,rfl⟩,fun _=>rfl⟩
 rw [updF_ne _ _ hq,h.hg]
 exact⟨.inl,fun h=>h.elim id fun h=>absurd h.2.2.symm hq⟩
theorem look_gone{ls:List Lim}{t:Int}{i:Nat}{g:List Qe}{G:Int→Option Unit}(h:GoneI ls t i g G)(hi:ls.length≤i){q:Int}(hq:0≤q):∃ b:Bool,((G q=some ()∧b=true)∨(G q=none∧b=false))∧(b=true↔∃ y∈ls,y.of_=q+1∧y.known≤t):=by
 have key:(∃ y∈ls.take i,0<y.of_∧y.known≤t∧y.of_-1=q)↔∃ y∈ls,y.of_=q+1∧y.known≤t:=by
  rw [List.take_of_length_le hi]
  exact⟨fun⟨y,a,b,c,d⟩=>⟨y,a,by omega,c⟩,fun⟨y,a,b,c⟩=>⟨y,a,by omega,c,by omega⟩⟩
 cases hg:G q with
 | none=>exact⟨false,.inr ⟨rfl,rfl⟩,nofun,fun h'=>by have:=(h.hg q).2 (key.2 h');rw [hg]at this;cases this⟩
 | some u=>exact⟨true,.inl ⟨rfl,rfl⟩,fun _=>key.1 ((h.hg q).1 hg),fun _=>rfl⟩
def RL1(f:FuncId)(xs:List SX.Arg)(v:Value):Prop :=
 f=12∧∃ (u:Value) (ls:List Lim),xs=[⟨u,9,lmL ls⟩]∧ls.length≤9223372036854775807∧fitLm ls∧v=.int .i64 (chkL ls)
def shpL1:FuncId→Option SX.Sh:=fun f=>if f=12 then some .one else none
noncomputable def cxL1(K A:Value→Nat→List Value→Prop):SX.Cx:={ P:=Tryd.prog,R:=fun _=>RL1,shp:=shpL1,K:=K,A:=A,trm:=true }
theorem okL1(K A:Value→Nat→List Value→Prop):(cxL1 K A).Ok:=by
 refine SX.Cx.ok_of (fun _=>rfl) ?_
 intro K f xs v W hR hrd hKf
 obtain⟨rfl,u,ls,rfl,hl,hf,rfl⟩:=hR
 obtain⟨A,n,c,rfl,h2,h3,h4⟩:=lms_arg (hrd ⟨u,9,lmL ls⟩ (by simp))
 exact(lCheck_any ls A n c W h2 (by omega) h3 hf).mono fun e w' h=>SX.plainOk rfl h
def tree_lStand:SX.Tree :=(.df (.call 12 [(.ext 9)]) [(.q 0)] .one
(.df (.bin .neq 44) [(.q 4),(.i 0)] .one
(.br 5 []
(.ret (.t [(.k (.slice none 0 0)),(.q 4)]) [] [])
(.df (.bin .leq 3) [(.i 0),(.q 1)] .one
(.br 6 []
(.df (.bin .leq 3) [(.q 1),(.i 63)] .one
(.df .not [(.q 7)] .one
(.br 8 []
(.ret (.t [(.k (.slice none 0 0)),(.i 1)]) [] [])
(.df (.bin .leq 3) [(.i 0),(.q 2)] .one
(.br 9 []
(.df (.bin .leq 3) [(.q 2),(.i 73048)] .one
(.df .not [(.q 10)] .one
(.br 11 []
(.ret (.t [(.k (.slice none 0 0)),(.i 1)]) [] [])
(.df (.bin .leq 3) [(.i 0),(.q 3)] .one
(.br 12 []
(.df (.bin .leq 3) [(.q 3),(.i 134217727)] .one
(.df .not [(.q 13)] .one
(.br 14 []
(.ret (.t [(.k (.slice none 0 0)),(.i 1)]) [] [])
(.df (.len false) [(.q 0)] .one
(.loop [(.i 0),(.a [(.i 0)])] [.one,.any]
(.df (.bin .lss 3) [(.q 16),(.q 15)] .one
(.br 18 []
(.df .bnd [(.q 0),(.q 16)] .one
(.df (.elems 9 0 9) [(.q 0),(.q 16)] (.ag 9)
(.df (.bin .gtr 3) [(.x 20 [2]),(.i 0)] .one
(.br 21 []
(.df (.bin .leq 3) [(.x 20 [5]),(.q 3)] .one
(.br 22 []
(.df (.bin .sub 3) [(.x 20 [2]),(.i 1)] .one
(.df (.mset 3 1 false) [(.cat [(.q 17)]),(.q 23),(.k (.bool true))] .any
(.df (.bin .add 3) [(.q 16),(.i 1)] .one
(.again 0 [(.q 25),(.q 24)]))))
(.df (.bin .add 3) [(.q 16),(.i 1)] .one
(.again 0 [(.q 23),(.q 17)]))))
(.df (.bin .add 3) [(.q 16),(.i 1)] .one
(.again 0 [(.q 22),(.q 17)]))))))
(.df (.len false) [(.q 0)] .one
(.loop [(.i 0),(.cat [])] [.one,.any]
(.df (.bin .lss 3) [(.q 20),(.q 19)] .one
(.br 22 []
(.df .bnd [(.q 0),(.q 20)] .one
(.df (.elems 9 0 9) [(.q 0),(.q 20)] (.ag 9)
(.df (.bin .eql 3) [(.x 24 [1]),(.q 1)] .one
(.br 25 []
(.df (.bin .leq 3) [(.x 24 [5]),(.q 3)] .one
(.br 26 []
(.df (.bin .leq 3) [(.x 24 [3]),(.q 2)] .one
(.br 27 []
(.df (.bin .leq 3) [(.q 2),(.x 24 [4])] .one
(.br 28 []
(.df (.eqr true 3 [(.i .i64),(.i .i64),(.i .i64)]) (SX.Y 24 6 3++[(.i 0),(.i 0),(.i 0)]) .one
(.br 29 []
(.df (.mlk false 3 1 false (.bool false)) [(.cat [(.q 17)]),(.x 24 [0])] .one
(.df .not [(.q 30)] .one
(.br 31 []
(.df (.app 9 72 (.own 9 (SX.Y 24 0 9))) [(.cat [(.q 21)]),(.sl 15 0 1 1)] .any
(.df (.bin .add 3) [(.q 20),(.i 1)] .one
(.again 1 [(.q 33),(.cat [(.q 21),(.q 32)])])))
(.df (.bin .add 3) [(.q 20),(.i 1)] .one
(.again 1 [(.q 32),(.cat [(.q 21)])])))))
(.df (.bin .add 3) [(.q 20),(.i 1)] .one
(.again 1 [(.q 30),(.cat [(.q 21)])]))))
(.df (.bin .add 3) [(.q 20),(.i 1)] .one
(.again 1 [(.q 29),(.cat [(.q 21)])]))))
(.df (.bin .add 3) [(.q 20),(.i 1)] .one
(.again 1 [(.q 28),(.cat [(.q 21)])]))))
(.df (.bin .add 3) [(.q 20),(.i 1)] .one
(.again 1 [(.q 27),(.cat [(.q 21)])]))))
(.df (.bin .add 3) [(.q 20),(.i 1)] .one
(.again 1 [(.q 26),(.cat [(.q 21)])]))))))
(.ret (.t [(.row 12),(.i 0)]) (List.replicate 12 none++[(some ⟨[(.q 21)],31,(.row 9)⟩)]) []))))))))))))
(.ret (.t [(.k (.slice none 0 0)),(.i 1)]) [] []))))))
(.ret (.t [(.k (.slice none 0 0)),(.i 1)]) [] []))))))
(.ret (.t [(.k (.slice none 0 0)),(.i 1)]) [] []))))))
def args_lStand:List SX.V:=[.x 0 [],.x 1 [],.x 2 [],.x 3 []]
set_option maxRecDepth 100000 in
theorem run_lStand(K A:Value→Nat→List Value→Prop):(SX.run (cxL1 K A) ⟨fun f=>true,[⟨58,3,[(.s 15,.one),(.c 4 0,.any)]⟩,⟨78,1,[(.s 12,.one),(.c 8 0,.row 9 31)]⟩],2,100⟩ 100000 0 (SX.door 27 Tryd.f27 args_lStand [.one,.one,.one,.one]) [.code (Tryd.f27.body.getD .skip),.top Tryd.f27]).strip=tree_lStand:=by kernel_rfl
set_option maxRecDepth 100000 in
set_option maxHeartbeats 4000000 in
theorem lStand_any(ls:List Lim)(A:Option Addr)(n c:Nat)(p d t:Int)(w:World)(hr:Rd w 9 A n (lmL ls))(hn:n≤9223372036854775807)(hc:n≤c)(hfit:fitLm ls):Calls Tryd.prog 27 #[.slice A n c,.int .i64 p,.int .i64 d,.int .i64 t] w fun e w'=>Below w.heap.size w w'∧∃ hdr,e=.returned (.tuple #[hdr,.int .i64 (standR ls p d t).2])∧SX.SlRet w w' [] hdr 9 (lmL (standR ls p d t).1):=by
 refine SX.calls_of_run (C:=cxL1 (fun s sz cells=>s=.slice A n c∧sz=9∧cells=lmL ls) (fun _ _ _=>False)) (G:=⟨fun f=>true,[⟨58,3,[(.s 15,.one),(.c 4 0,.any)]⟩,⟨78,1,[(.s 12,.one),(.c 8 0,.row 9 31)]⟩],2,100⟩) (args:=args_lStand) (sh:=[.one,.one,.one,.one]) (ρ:=[.slice A n c,.int .i64 p,.int .i64 d,.int .i64 t]) 100000 tree_lStand (okL1 _ _) Tryd.func27 rfl (run_lStand _ _) (by kernel_rfl) (by kernel_rfl) (by kernel_rfl) ?_ ?_
 ·rintro W hW s sz cells ⟨rfl,rfl,rfl⟩;exact⟨hr.same0 hW,hc⟩
 have hA:=SX.rd_some hr
 have hln:ls.length=n:=by have:=hr.1;rw [lmL_len]at this;omega
 unfold tree_lStand
 refine SX.E (.int .i64 ((chkL ls))) (fun α=>⟨[⟨.slice A n c,9,lmL ls⟩],⟨by kernel_rfl,rfl,⟨by kernel_rfl,rfl,rfl⟩,trivial⟩,⟨rfl,_,ls,rfl,by omega,hfit,rfl⟩,SX.noAli rfl⟩) ?_
 refine SX.D (.bool (((chkL ls):Int) != 0)) ?_
 refine SX.B (((chkL ls):Int) != 0) (fun h5=>?_) (fun h5=>?_)
 ·try simp only [NRM]at h5
  have hfact:standR ls p d t=([],chkL ls):=by rw [standR,if_pos (by simpa using h5)]
  exact SX.VC_ret fun α W _ hR hS=>⟨hS.below,(.slice none 0 0),Eq.trans (b:=Ending.returned (.tuple #[(.slice none 0 0),.int .i64 ((chkL ls))])) (by kernel_rfl) (by rw [hfact]),(by rw [hfact];exact SX.SlRet.nil)⟩
 try simp only [NRM]at h5
 refine SX.D (.bool (decide (0≤p))) ?_
 refine SX.B (decide (0≤p)) (fun h6=>?_) (fun h6=>?_)
 ·try simp only [NRM]at h6
  refine SX.D (.bool (decide (p≤63))) ?_
  refine SX.D (.bool (!(decide (p≤63)))) ?_
  refine SX.B (!(decide (p≤63))) (fun h8=>?_) (fun h8=>?_)
  ·try simp only [NRM]at h8
   have hfact:standR ls p d t=([],1):=by rw [standR,if_neg (by simpa using h5),if_pos (fun hk=>by rw [inR_iff]at hk;omega)]
   exact SX.VC_ret fun α W _ hR hS=>⟨hS.below,(.slice none 0 0),Eq.trans (b:=Ending.returned (.tuple #[(.slice none 0 0),.int .i64 1])) (by kernel_rfl) (by rw [hfact]),(by rw [hfact];exact SX.SlRet.nil)⟩
  try simp only [NRM]at h8
  refine SX.D (.bool (decide (0≤d))) ?_
  refine SX.B (decide (0≤d)) (fun h9=>?_) (fun h9=>?_)
  ·try simp only [NRM]at h9
   refine SX.D (.bool (decide (d≤73048))) ?_
   refine SX.D (.bool (!(decide (d≤73048)))) ?_
   refine SX.B (!(decide (d≤73048))) (fun h11=>?_) (fun h11=>?_)
   ·try simp only [NRM]at h11
    have hfact:standR ls p d t=([],1):=by rw [standR,if_neg (by simpa using h5),if_pos (fun hk=>by rw [inR_iff]at hk;omega)]
    exact SX.VC_ret fun α W _ hR hS=>⟨hS.below,(.slice none 0 0),Eq.trans (b:=Ending.returned (.tuple #[(.slice none 0 0),.int .i64 1])) (by kernel_rfl) (by rw [hfact]),(by rw [hfact];exact SX.SlRet.nil)⟩
   try simp only [NRM]at h11
   refine SX.D (.bool (decide (0≤t))) ?_
   refine SX.B (decide (0≤t)) (fun h12=>?_) (fun h12=>?_)
   ·try simp only [NRM]at h12
    refine SX.D (.bool (decide (t≤134217727))) ?_
    refine SX.D (.bool (!(decide (t≤134217727)))) ?_
    refine SX.B (!(decide (t≤134217727))) (fun h14=>?_) (fun h14=>?_)
    ·try simp only [NRM]at h14
     have hfact:standR ls p d t=([],1):=by rw [standR,if_neg (by simpa using h5),if_pos (fun hk=>by rw [inR_iff]at hk;omega)]
     exact SX.VC_ret fun α W _ hR hS=>⟨hS.below,(.slice none 0 0),Eq.trans (b:=Ending.returned (.tuple #[(.slice none 0 0),.int .i64 1])) (by kernel_rfl) (by rw [hfact]),(by rw [hfact];exact SX.SlRet.nil)⟩
    try simp only [NRM]at h14
    refine SX.D (.int .i64 (((n:Nat):Int))) ?_
    have hk0:chkL ls=0:=by simpa using h5
    obtain⟨hl5,hokl⟩:=chkL_zero hk0
    have hir:inR p d t:=by rw [inR_iff];(try simp at h8);(try simp at h11);(try simp at h14);omega
    refine SX.VC_loop (fun xs=>∃ (j:Nat) (nk:Nat) (g:List Qe) (G:Int→Option Unit),xs=[.int .i64 (j:Int),.agg (qCells nk g).toArray]∧j≤n∧GoneI ls t j g G) (fun xs=>match xs with|(.int _ i)::_=>n-i.toNat|_=>0) (fun α=>⟨0,0,[],_,by kernel_rfl,by omega,goneI_zero ls t⟩) ?_
    rintro xs-⟨j,nk,g,G,rfl,hjn,hG⟩
    refine SX.D (.bool (decide (((j:Nat):Int)<((n:Nat):Int)))) ?_
    refine SX.B (decide (((j:Nat):Int)<((n:Nat):Int))) (fun h18=>?_) (fun h18=>?_)
    ·try simp only [NRM]at h18
     obtain⟨y,hy⟩:∃ z,ls[j]?=some z:=⟨_,List.getElem?_eq_getElem (by omega)⟩
     have hyf:=hfit y (List.mem_of_getElem? hy)
     refine SX.E (.bool true) (fun α=>SX.extBnd (A:=A) (n:=n) (c:=c) (j:=j) hA (by kernel_rfl) (by kernel_rfl) (by omega)) ?_
     refine SX.E (.agg (cellsLm y).toArray) (fun α=>SX.extElems (f:=cellsLm) (l:=ls) (A:=A) (n:=n) (c:=c) (j:=j) (z:=y) (fun _=>rfl) hA (by kernel_rfl) (by kernel_rfl) (by omega) ⟨rfl,rfl,rfl⟩ hy) ?_
     refine SX.D (.bool (decide (y.of_>0))) ?_
     refine SX.B (decide (y.of_>0)) (fun h21=>?_) (fun h21=>?_)
     ·try simp only [NRM]at h21
      refine SX.D (.bool (decide (y.known≤t))) ?_
      refine SX.B (decide (y.known≤t)) (fun h22=>?_) (fun h22=>?_)
      ·try simp only [NRM]at h22
       refine SX.E (.int .i64 (y.of_-1)) (fun α=>SX.W (y.of_-1)) ?_
       obtain⟨nk2,g2,hpk,hM2⟩:=hG.m.put keyI_inj nk (y.of_-1) ()
       refine SX.E (.agg (qCells nk2 g2).toArray) (fun α=>SX.mset_rel hG.m (fun _=>rfl) kd_int hG.kk rfl (SX.cat1 (by kernel_rfl)) (by kernel_rfl) (by kernel_rfl) hpk) ?_
       refine SX.E (.int .i64 (((j+1:Nat):Int))) (fun α=>SX.W1 j) ?_
       exact SX.VC_again fun α=>⟨⟨j+1,nk2,g2,_,by kernel_rfl,by omega,goneI_yes hG hy hpk hM2 (by omega) (by omega)⟩,cast (by kernel_rfl) (show n-((j+1:Nat):Int).toNat<n-(j:Int).toNat by omega)⟩
      try simp only [NRM]at h22
      refine SX.E (.int .i64 (((j+1:Nat):Int))) (fun α=>SX.W1 j) ?_
      exact SX.VC_again fun α=>⟨⟨j+1,nk,g,G,by kernel_rfl,by omega,goneI_no hG hy (by omega)⟩,cast (by kernel_rfl) (show n-((j+1:Nat):Int).toNat<n-(j:Int).toNat by omega)⟩
     try simp only [NRM]at h21
     refine SX.E (.int .i64 (((j+1:Nat):Int))) (fun α=>SX.W1 j) ?_
     exact SX.VC_again fun α=>⟨⟨j+1,nk,g,G,by kernel_rfl,by omega,goneI_no hG hy (by omega)⟩,cast (by kernel_rfl) (show n-((j+1:Nat):Int).toNat<n-(j:Int).toNat by omega)⟩
    try simp only [NRM]at h18
    refine SX.D (.int .i64 (((n:Nat):Int))) ?_
    refine SX.VC_loop (fun xs=>∃ (i:Nat),xs=[.int .i64 (i:Int),.agg (lmL (standTo ls p d t i)).toArray]∧i≤n) (fun xs=>match xs with|(.int _ i)::_=>n-i.toNat|_=>0) (fun α=>⟨0,Eq.trans (b:=[.int .i64 0,.agg #[]]) (by kernel_rfl) (by simp [standTo,lmL]),by omega⟩) ?_
    rintro xs-⟨i,rfl,hin⟩
    have hsl:(standTo ls p d t i).length≤i:=standTo_le
    refine SX.D (.bool (decide (((i:Nat):Int)<((n:Nat):Int)))) ?_
    refine SX.B (decide (((i:Nat):Int)<((n:Nat):Int))) (fun h22=>?_) (fun h22=>?_)
    ·try simp only [NRM]at h22
     obtain⟨z,hz⟩:∃ z,ls[i]?=some z:=⟨_,List.getElem?_eq_getElem (by omega)⟩
     have hz0:=(elemOk_iff.1 (hokl i z hz).1).1
     obtain⟨rp,hlg,hrp⟩:=look_gone hG (by omega) hz0.1
     refine SX.E (.bool true) (fun α=>SX.extBnd (A:=A) (n:=n) (c:=c) (j:=i) hA (by kernel_rfl) (by kernel_rfl) (by omega)) ?_
     refine SX.E (.agg (cellsLm z).toArray) (fun α=>SX.extElems (f:=cellsLm) (l:=ls) (A:=A) (n:=n) (c:=c) (j:=i) (z:=z) (fun _=>rfl) hA (by kernel_rfl) (by kernel_rfl) (by omega) ⟨rfl,rfl,rfl⟩ hz) ?_
     refine SX.D (.bool ((z.person:Int) == p)) ?_
     refine SX.B ((z.person:Int) == p) (fun h25=>?_) (fun h25=>?_)
     ·try simp only [NRM]at h25
      refine SX.D (.bool (decide (z.known≤t))) ?_
      refine SX.B (decide (z.known≤t)) (fun h26=>?_) (fun h26=>?_)
      ·try simp only [NRM]at h26
       refine SX.D (.bool (decide (z.from_≤d))) ?_
       refine SX.B (decide (z.from_≤d)) (fun h27=>?_) (fun h27=>?_)
       ·try simp only [NRM]at h27
        refine SX.D (.bool (decide (d≤z.to_))) ?_
        refine SX.B (decide (d≤z.to_)) (fun h28=>?_) (fun h28=>?_)
        ·try simp only [NRM]at h28
         refine SX.E (.bool (true ^^ decide ((z.kind,z.limb,z.n)=((0:Int),(0:Int),(0:Int))))) (fun α=>SX.eqr_rel (f:=cellsCap) cellsCap_inj (y:=(z.kind,z.limb,z.n)) (z:=((0:Int),(0:Int),(0:Int))) (by kernel_rfl) (by kernel_rfl) (by kernel_rfl)) ?_
         refine SX.B (true ^^ decide ((z.kind,z.limb,z.n)=((0:Int),(0:Int),(0:Int)))) (fun h29=>?_) (fun h29=>?_)
         ·try simp only [NRM]at h29
          refine SX.E (.bool rp) (fun α=>SX.mlk_rel (nx:=nk) (i:=z.no) hG.m keyI_inj (fun _=>rfl) kd_int hG.kk rfl (SX.cat1 (by kernel_rfl)) (by kernel_rfl) (by rcases hlg with ⟨e1,e2⟩|⟨e1,e2⟩<;>subst_vars<;>rw [e1]<;>rfl)) ?_
          refine SX.D (.bool (!(rp))) ?_
          refine SX.B (!(rp)) (fun h31=>?_) (fun h31=>?_)
          ·try simp only [NRM]at h31
           refine SX.E (Value.agg (([z]).flatMap cellsLm).toArray) (fun α=>SX.app_rel (f:=cellsLm) (l1:=(standTo ls p d t i)) (l2:=[z]) (fun _=>rfl) cellsLm_one (by decide) (SX.cat1 (by kernel_rfl)) (SX.src_own (by kernel_rfl)) (by simp only [LL];omega) (by simp only [LL];omega)) ?_
           refine SX.E (.int .i64 (((i+1:Nat):Int))) (fun α=>SX.W1 i) ?_
           have hst:standE ls p d t z:=⟨by simpa using h25,by omega,by omega,by omega,by simpa using h29,by rw [← hrp];simpa using h31⟩
           exact SX.VC_again fun α=>⟨⟨i+1,Eq.trans (b:=[.int .i64 ((i+1:Nat):Int),.agg ([Value.agg (lmL (standTo ls p d t i)).toArray,Value.agg (([z]).flatMap cellsLm).toArray].flatMap SX.cellsV).toArray]) (by kernel_rfl) (by rw [standTo_yes hz hst];simp [SX.cellsV,lmL]),by omega⟩,cast (by kernel_rfl) (show n-((i+1:Nat):Int).toNat<n-(i:Int).toNat by omega)⟩
          try simp only [NRM]at h31
          refine SX.E (.int .i64 (((i+1:Nat):Int))) (fun α=>SX.W1 i) ?_
          have hst:¬ standE ls p d t z:=fun hk=>hk.2.2.2.2.2 (hrp.1 (by simpa using h31))
          exact SX.VC_again fun α=>⟨⟨i+1,Eq.trans (b:=[.int .i64 ((i+1:Nat):Int),.agg ([Value.agg (lmL (standTo ls p d t i)).toArray].flatMap SX.cellsV).toArray]) (by kernel_rfl) (by rw [standTo_no hz hst];simp [SX.cellsV]),by omega⟩,cast (by kernel_rfl) (show n-((i+1:Nat):Int).toNat<n-(i:Int).toNat by omega)⟩
         try simp only [NRM]at h29
         refine SX.E (.int .i64 (((i+1:Nat):Int))) (fun α=>SX.W1 i) ?_
         have hst:¬ standE ls p d t z:=fun hk=>hk.2.2.2.2.1 (by simpa using h29)
         exact SX.VC_again fun α=>⟨⟨i+1,Eq.trans (b:=[.int .i64 ((i+1:Nat):Int),.agg ([Value.agg (lmL (standTo ls p d t i)).toArray].flatMap SX.cellsV).toArray]) (by kernel_rfl) (by rw [standTo_no hz hst];simp [SX.cellsV]),by omega⟩,cast (by kernel_rfl) (show n-((i+1:Nat):Int).toNat<n-(i:Int).toNat by omega)⟩
        try simp only [NRM]at h28
        refine SX.E (.int .i64 (((i+1:Nat):Int))) (fun α=>SX.W1 i) ?_
        have hst:¬ standE ls p d t z:=fun hk=>by have:=hk.2.2.2.1;omega
        exact SX.VC_again fun α=>⟨⟨i+1,Eq.trans (b:=[.int .i64 ((i+1:Nat):Int),.agg ([Value.agg (lmL (standTo ls p d t i)).toArray].flatMap SX.cellsV).toArray]) (by kernel_rfl) (by rw [standTo_no hz hst];simp [SX.cellsV]),by omega⟩,cast (by kernel_rfl) (show n-((i+1:Nat):Int).toNat<n-(i:Int).toNat by omega)⟩
       try simp only [NRM]at h27
       refine SX.E (.int .i64 (((i+1:Nat):Int))) (fun α=>SX.W1 i) ?_
       have hst:¬ standE ls p d t z:=fun hk=>by have:=hk.2.2.1;omega
       exact SX.VC_again fun α=>⟨⟨i+1,Eq.trans (b:=[.int .i64 ((i+1:Nat):Int),.agg ([Value.agg (lmL (standTo ls p d t i)).toArray].flatMap SX.cellsV).toArray]) (by kernel_rfl) (by rw [standTo_no hz hst];simp [SX.cellsV]),by omega⟩,cast (by kernel_rfl) (show n-((i+1:Nat):Int).toNat<n-(i:Int).toNat by omega)⟩
      try simp only [NRM]at h26
      refine SX.E (.int .i64 (((i+1:Nat):Int))) (fun α=>SX.W1 i) ?_
      have hst:¬ standE ls p d t z:=fun hk=>by have:=hk.2.1;omega
      exact SX.VC_again fun α=>⟨⟨i+1,Eq.trans (b:=[.int .i64 ((i+1:Nat):Int),.agg ([Value.agg (lmL (standTo ls p d t i)).toArray].flatMap SX.cellsV).toArray]) (by kernel_rfl) (by rw [standTo_no hz hst];simp [SX.cellsV]),by omega⟩,cast (by kernel_rfl) (show n-((i+1:Nat):Int).toNat<n-(i:Int).toNat by omega)⟩
     try simp only [NRM]at h25
     refine SX.E (.int .i64 (((i+1:Nat):Int))) (fun α=>SX.W1 i) ?_
     have hst:¬ standE ls p d t z:=fun hk=>absurd hk.1 (by simpa using h25)
     exact SX.VC_again fun α=>⟨⟨i+1,Eq.trans (b:=[.int .i64 ((i+1:Nat):Int),.agg ([Value.agg (lmL (standTo ls p d t i)).toArray].flatMap SX.cellsV).toArray]) (by kernel_rfl) (by rw [standTo_no hz hst];simp [SX.cellsV]),by omega⟩,cast (by kernel_rfl) (show n-((i+1:Nat):Int).toNat<n-(i:Int).toNat by omega)⟩
    try simp only [NRM]at h22
    have hfact:standR ls p d t=(standTo ls p d t i,0):=by rw [standR,if_neg (by omega),if_neg (not_not_intro hir),standTo_all (by omega)]
    exact SX.VC_ret fun α W _ hR hS=>⟨hS.below,(α 12).h,Eq.trans (b:=Ending.returned (.tuple #[(α 12).h,.int .i64 0])) (by kernel_rfl) (by rw [hfact]),SX.SlRet.row hS (n:=12) (b:=(⟨[(.x 21 [])],31,(.row 9)⟩:SX.Blk)) (by kernel_rfl) rfl (hR 12 _ (by kernel_rfl)) (Eq.trans (b:=[Value.agg (lmL (standTo ls p d t i)).toArray].flatMap SX.cellsV) (by kernel_rfl) (by rw [hfact];simp [SX.cellsV]))⟩
   try simp only [NRM]at h12
   have hfact:standR ls p d t=([],1):=by rw [standR,if_neg (by simpa using h5),if_pos (fun hk=>by rw [inR_iff]at hk;omega)]
   exact SX.VC_ret fun α W _ hR hS=>⟨hS.below,(.slice none 0 0),Eq.trans (b:=Ending.returned (.tuple #[(.slice none 0 0),.int .i64 1])) (by kernel_rfl) (by rw [hfact]),(by rw [hfact];exact SX.SlRet.nil)⟩
  try simp only [NRM]at h9
  have hfact:standR ls p d t=([],1):=by rw [standR,if_neg (by simpa using h5),if_pos (fun hk=>by rw [inR_iff]at hk;omega)]
  exact SX.VC_ret fun α W _ hR hS=>⟨hS.below,(.slice none 0 0),Eq.trans (b:=Ending.returned (.tuple #[(.slice none 0 0),.int .i64 1])) (by kernel_rfl) (by rw [hfact]),(by rw [hfact];exact SX.SlRet.nil)⟩
 try simp only [NRM]at h6
 have hfact:standR ls p d t=([],1):=by rw [standR,if_neg (by simpa using h5),if_pos (fun hk=>by rw [inR_iff]at hk;omega)]
 exact SX.VC_ret fun α W _ hR hS=>⟨hS.below,(.slice none 0 0),Eq.trans (b:=Ending.returned (.tuple #[(.slice none 0 0),.int .i64 1])) (by kernel_rfl) (by rw [hfact]),(by rw [hfact];exact SX.SlRet.nil)⟩
end Go.Proofs.YtidekfgkpindbaaDoor
namespace Go.Proofs.YtidekfgkpindbaaDoor.Bod
def letterB(c:UInt8):Bool:=(97≤c && c≤122) || (65≤c && c≤90)
def figureB(c:UInt8):Bool:=48≤c && c≤57
def partB(c:UInt8):Bool:=letterB c || figureB c || c == 95
def nameB(l:List UInt8):Bool:=decide (1≤l.length∧l.length≤32) && letterB (l.getD 0 0) && l.all partB
def inB(lo hi n:Int):Bool:=decide (lo≤n) && decide (n≤hi)
structure Bd where
 name:ByteArray
 weight:Int
 lift:Int
 girth:Int
 step:Int
 jump:Int
 r0:Int
 r1:Int
 r2:Int
 s0:Int
 s1:Int
 s2:Int
 t0:Int
 t1:Int
 t2:Int
 effort:Int
 recover:Int
def Bd.baseB(b:Bd):Bool:=nameB b.name.data.toList && inB 1 500 b.weight && inB 1 4 b.girth && (inB 1 8 b.r0 && inB 1 8 b.r1 && inB 1 8 b.r2) && inB 0 1048576 b.recover
def Bd.capsB(b:Bd):Bool:=(inB 1 3 b.t0 && inB 1 3 b.t1 && inB 1 3 b.t2) && (inB 1 1048576 b.s0 && inB 1 1048576 b.s1 && inB 1 1048576 b.s2) && inB 1 16 b.step && inB 0 16 b.jump && inB 0 500 b.lift && inB 0 1048576 b.effort
def Bd.okB(b:Bd):Bool:=b.baseB && b.capsB
def Bd.chk(b:Bd):Int:=if b.okB=true then 0 else 250
def IsClass(c:UInt8)(n:Int):Prop:=(n=2↔letterB c=true)∧(n=3↔(letterB c=false∧figureB c=true))∧(n=5↔(letterB c=false∧figureB c=false∧(c == 95)=true))
theorem letter_iff(c:UInt8):letterB c=decide ((97≤c.toNat∧c.toNat≤122)∨(65≤c.toNat∧c.toNat≤90)):=by
 unfold letterB
 rw [Bool.eq_iff_iff]
 simp [UInt8.le_iff_toNat_le]
theorem figure_iff(c:UInt8):figureB c=decide (48≤c.toNat∧c.toNat≤57):=by
 unfold figureB
 rw [Bool.eq_iff_iff]
 simp [UInt8.le_iff_toNat_le]
theorem line_iff(c:UInt8):(c == 95)=decide (c.toNat=95):=by
 rw [Bool.eq_iff_iff,beq_iff_eq,decide_eq_true_iff]
 exact⟨fun h=>by rw [h];rfl,fun h=>UInt8.toNat_inj.1 (by rw [h];rfl)⟩
theorem isClass_mk{c:UInt8}{n:Int}(h:(n=2∧((97≤(c.toNat:Int)∧(c.toNat:Int)≤122)∨(65≤(c.toNat:Int)∧(c.toNat:Int)≤90))) ∨
 (n=3∧48≤(c.toNat:Int)∧(c.toNat:Int)≤57)∨(n=5∧(c.toNat:Int)=95) ∨
 (n≠2∧n≠3∧n≠5∧¬ (97≤(c.toNat:Int)∧(c.toNat:Int)≤122)∧¬ (65≤(c.toNat:Int)∧(c.toNat:Int)≤90)∧¬ (48≤(c.toNat:Int)∧(c.toNat:Int)≤57)∧(c.toNat:Int)≠95)):IsClass c n:=by
 unfold IsClass
 rw [letter_iff,figure_iff,line_iff]
 simp only [decide_eq_true_eq,decide_eq_false_iff_not]
 omega
theorem IsClass.two{c:UInt8}{n:Int}(h:IsClass c n):(n != 2) = !letterB c:=by
 rw [Bool.eq_iff_iff,bne_iff_ne]
 cases hl:letterB c with
 | true=>simp [h.1.2 hl]
 | false=>simp;intro e;have:=h.1.1 e;rw [hl]at this;cases this
theorem IsClass.part{c:UInt8}{n:Int}(h:IsClass c n):(n=2∨n=3∨n=5)↔partB c=true:=by
 obtain⟨h1,h2,h3⟩:=h
 rw [h1,h2,h3]
 unfold partB
 cases letterB c<;>cases figureB c<;>cases (c == 95)<;>simp
def Bd.fld(b:Bd):Nat→Nat→Int
 | 0,0=>b.t0|0,1=>b.t1|0,_=>b.t2
 | 1,0=>b.s0|1,1=>b.s1|1,_=>b.s2
 | 2,_=>b.step|3,_=>b.jump|4,_=>b.lift|_,_=>b.effort
def rlo:Nat→Int|0=>1|1=>1|2=>1|_=>0
def rhi:Nat→Int|0=>3|1=>1048576|2=>16|3=>16|4=>500|_=>1048576
def rlimb:Nat→Nat|0=>2|1=>2|_=>0
structure Cp where
 kind:Int
 limb:Int
 n:Int
def Cp.r(c:Cp):Nat:=c.kind.toNat-1
def Cp.inR(c:Cp):Bool:=inB 0 (rlimb c.r) c.limb && inB (rlo c.r) (rhi c.r) c.n
def Cp.ok(c:Cp):Bool:=inB 1 6 c.kind && c.inR
def Bd.set(b:Bd):Nat→Nat→Int→Bd
 | 0,0,v=>{ b with t0:=v }|0,1,v=>{ b with t1:=v }|0,_,v=>{ b with t2:=v }
 | 1,0,v=>{ b with s0:=v }|1,1,v=>{ b with s1:=v }|1,_,v=>{ b with s2:=v }
 | 2,_,v=>{ b with step:=v }|3,_,v=>{ b with jump:=v }|4,_,v=>{ b with lift:=v }|_,_,v=>{ b with effort:=v }
def least(i j:Int):Int:=if j<i then j else i
def Bd.meet(b:Bd)(c:Cp):Bd:=b.set c.r c.limb.toNat (least (b.fld c.r c.limb.toNat) c.n)
def Bd.meets(b:Bd)(l:List Cp):Bd:=l.foldl Bd.meet b
def Bd.zero:Bd:=⟨⟨#[]⟩,0,0,0,0,0,0,0,0,0,0,0,0,0,0,0,0⟩
def Bd.allE(b:Bd)(l:List Cp):Int:=if b.okB=true then(if 64<l.length then 2 else if l.all Cp.ok=true then 0 else 1)else 250
def Bd.allB(b:Bd)(l:List Cp):Bd:=if b.allE l=0 then b.meets l else Bd.zero
theorem Bd.all_yes{b:Bd}{l:List Cp}(h1:b.okB=true)(h2:¬ 64<l.length)(h3:l.all Cp.ok=true):b.allE l=0∧b.allB l=b.meets l:=by
 have:b.allE l=0:=by unfold Bd.allE;rw [if_pos h1,if_neg h2,if_pos h3]
 exact⟨this,by unfold Bd.allB;rw [if_pos this]⟩
theorem Bd.meets_succ{b:Bd}{l:List Cp}{k:Nat}{c:Cp}(h:l[k]?=some c):b.meets (l.take (k+1))=(b.meets (l.take k)).meet c:=by
 unfold Bd.meets
 rw [List.take_add_one,h]
 simp
end Go.Proofs.YtidekfgkpindbaaDoor.Bod
namespace Go.Proofs.YtidekfgkpindbaaDoor
open Go Go.RowKit
set_option maxHeartbeats 1000000 in
theorem class_any(c:UInt8)(w:World) :
 Calls Tryd.prog 70 #[.int .u8 c.toNat] w fun e w'=>(∃ n,e=.returned (.int .i64 n)∧Bod.IsClass c n)∧w=w':=by
 go_enter Tryd.func70,Tryd.ntmps70
 go_wp2_with (go_at_call 89;refine(Tryd.strings_IndexByte _ _ _).mono ?_;rintro e w' ⟨rfl,rfl⟩)
 all_goals
  (try simp only [beq_iff_eq,beq_eq_false_iff_ne,ne_eq]at *)
  go_ret
  exact⟨⟨_,rfl,Bod.isClass_mk (by omega)⟩,rfl⟩
def NRel(s:ByteArray)(i:Value):Prop:=∃ k:Nat,k≤s.size∧i=.int .i64 k∧∀ j,j<k→Bod.partB (s.data.toList.getD j 0)=true
theorem nameB_no{l:List UInt8}(k:Nat)(hk:k<l.length)(h:Bod.partB (l.getD k 0)=false):Bod.nameB l=false:=by
 unfold Bod.nameB
 have:l.all Bod.partB=false:=by
  rw [List.all_eq_false]
  refine⟨l.getD k 0,?_,by rw [h];simp⟩
  rw [List.getD_eq_getElem?_getD,List.getElem?_eq_getElem hk]
  exact List.getElem_mem _
 rw [this,Bool.and_false]
theorem nameB_yes{l:List UInt8}(h1:1≤l.length)(h2:l.length≤32)(h3:Bod.letterB (l.getD 0 0)=true)(h:∀ j,j<l.length→Bod.partB (l.getD j 0)=true):Bod.nameB l=true:=by
 unfold Bod.nameB
 rw [h3,decide_eq_true ⟨h1,h2⟩]
 simp only [Bool.true_and]
 rw [List.all_eq_true]
 intro x hx
 obtain⟨j,hj,rfl⟩:=List.mem_iff_getElem.1 hx
 have:=h j hj
 rwa [List.getD_eq_getElem?_getD,List.getElem?_eq_getElem hj]at this
theorem class_two{c:UInt8}(h:Bod.letterB c=true)(w:World) :
 Calls Tryd.prog 70 #[.int .u8 c.toNat] w fun e w'=>e=.returned (.int .i64 2)∧w=w' :=
 (class_any c w).mono fun _ _ ⟨⟨n,he,hn⟩,hw⟩=>⟨by rw [he,hn.1.2 h],hw⟩
theorem class_three{c:UInt8}(h:Bod.letterB c=false)(h':Bod.figureB c=true)(w:World) :
 Calls Tryd.prog 70 #[.int .u8 c.toNat] w fun e w'=>e=.returned (.int .i64 3)∧w=w' :=
 (class_any c w).mono fun _ _ ⟨⟨n,he,hn⟩,hw⟩=>⟨by rw [he,hn.2.1.2 ⟨h,h'⟩],hw⟩
theorem class_five{c:UInt8}(h:Bod.letterB c=false)(h':Bod.figureB c=false)(h'':(c == 95)=true)(w:World) :
 Calls Tryd.prog 70 #[.int .u8 c.toNat] w fun e w'=>e=.returned (.int .i64 5)∧w=w' :=
 (class_any c w).mono fun _ _ ⟨⟨n,he,hn⟩,hw⟩=>⟨by rw [he,hn.2.2.2 ⟨h,h',h''⟩],hw⟩
theorem class_not{c:UInt8}(h:Bod.letterB c=false)(w:World) :
 Calls Tryd.prog 70 #[.int .u8 c.toNat] w fun e w'=>(∃ n,e=.returned (.int .i64 n)∧(n != 2)=true)∧w=w' :=
 (class_any c w).mono fun _ _ ⟨⟨n,he,hn⟩,hw⟩=>⟨⟨n,he,by rw [hn.two,h];rfl⟩,hw⟩
theorem class_none{c:UInt8}(h:Bod.partB c=false)(w:World) :
 Calls Tryd.prog 70 #[.int .u8 c.toNat] w fun e w'=>(∃ n,e=.returned (.int .i64 n)∧(n != 2)=true∧(n != 3)=true∧(n != 5)=true)∧w=w' :=
 (class_any c w).mono fun _ _ ⟨⟨n,he,hn⟩,hw⟩=>⟨⟨n,he,by
  have:=hn.part
  rw [h]at this
  simp only [Bool.false_eq_true,iff_false]at this
  simp only [bne_iff_ne,ne_eq]
  omega⟩,hw⟩
theorem at_byte(s:ByteArray)(k:Nat)(h:k<s.size):s.data.toList.getD k 0=s[k]:=by
 rw [List.getD_eq_getElem?_getD,List.getElem?_eq_getElem (by simpa using h)];rfl
set_option maxHeartbeats 1000000 in
theorem name_any(s:ByteArray)(w:World)(hs:s.size≤maxLen) :
 Calls Tryd.prog 54 #[.string s] w fun e w'=>e=.returned (.bool (Bod.nameB s.data.toList))∧w=w':=by
 unfold maxLen at hs
 have hl:s.data.toList.length=s.size:=by simp
 by_cases h0:s.size=0
 ·have hd:s.data.toList=[]:=List.length_eq_zero_iff.1 (by rw [hl,h0])
  have hn:Hid (Bod.nameB s.data.toList=false):=Lib.hid (by rw [hd];rfl)
  have he:s.toList=[]:=by rw [ByteArray.toList_eq,hd]
  have he':s.toList.isEmpty=true:=by rw [he];rfl
  clear hd hl h0
  go_enter Tryd.func54,Tryd.ntmps54
  go_wp2_with fail
  go_ret
  exact⟨ret_bool hn.out.symm,rfl⟩
 have hne:s.toList.isEmpty=false:=by
  rw [ByteArray.toList_eq]
  cases hq:s.data.toList with
  | nil=>rw [hq]at hl;simp at hl;omega
  | cons a l=>rfl
 have h1:0<s.size:=by omega
 have a0:=at_byte s 0 h1
 clear h0
 by_cases h32:32<s.size
 ·have hn:Hid (Bod.nameB s.data.toList=false):=Lib.hid (by unfold Bod.nameB;rw [decide_eq_false (by rw [hl];omega)];rfl)
  clear hl a0
  go_enter Tryd.func54,Tryd.ntmps54
  go_wp2_with fail
  go_ret
  exact⟨ret_bool hn.out.symm,rfl⟩
 cases hlt:Bod.letterB s[0]with
 | false =>
  have hn:Hid (Bod.nameB s.data.toList=false):=Lib.hid (by unfold Bod.nameB;rw [a0,hlt];simp)
  clear hl a0
  go_enter Tryd.func54,Tryd.ntmps54
  go_wp2_with (go_at_call 70;refine(class_not hlt _).mono ?_;rintro e w' ⟨⟨n,rfl,hn2⟩,rfl⟩)
  go_ret
  exact⟨ret_bool hn.out.symm,rfl⟩
 | true =>
  have HL:=Lib.hid hl
  have HA:=Lib.hid a0
  clear hl a0
  go_enter Tryd.func54,Tryd.ntmps54
  go_wp2_with (go_at_call 70;refine(class_two hlt _).mono ?_;rintro e w' ⟨rfl,rfl⟩)
  go_loop [20] (fun i=>NRel s i) (fun i=>s.size-(intOf i).toNat)
  case atStart=>exact⟨0,Nat.zero_le _,rfl,fun j h=>by omega⟩
  case round =>
   obtain⟨k,hk,rfl,hp⟩:=hrel
   have HP:=Lib.hid hp
   clear hp
   by_cases hlk:k<s.size
   ·have ak:=Lib.hid (at_byte s k hlk)
    have next:Bod.partB s[k]=true→NRel s (.int .i64 ((k:Int)+1)):=fun hpk=>⟨k+1,by omega,by go_num,fun j hj=>by
     by_cases e:j=k
     ·subst e;rw [ak.out];exact hpk
     exact HP.out j (by omega)⟩
    have NX:=Lib.hid next
    clear next
    cases h2:Bod.letterB s[k]with
    | true =>
     go_wp2_with (go_at_call 70;refine(class_two h2 _).mono ?_;rintro e w' ⟨rfl,rfl⟩)
     go_round
     case rel=>exact NX.out (by unfold Bod.partB;rw [h2];rfl)
     case measure=>simp [intOf];omega
    | false =>
     cases h3:Bod.figureB s[k]with
     | true =>
      go_wp2_with (go_at_call 70;refine(class_three h2 h3 _).mono ?_;rintro e w' ⟨rfl,rfl⟩)
      go_round
      case rel=>exact NX.out (by unfold Bod.partB;rw [h2,h3];rfl)
      case measure=>simp [intOf];omega
     | false =>
      cases h5:s[k] == 95 with
      | true =>
       go_wp2_with (go_at_call 70;refine(class_five h2 h3 h5 _).mono ?_;rintro e w' ⟨rfl,rfl⟩)
       go_round
       case rel=>exact NX.out (by unfold Bod.partB;rw [h2,h3,h5];rfl)
       case measure=>simp [intOf];omega
      | false =>
       have hpp:Bod.partB s[k]=false:=by unfold Bod.partB;rw [h2,h3,h5];rfl
       have hn:Hid (Bod.nameB s.data.toList=false):=Lib.hid (nameB_no k (by rw [HL.out];exact hlk) (by rw [ak.out];exact hpp))
       clear h2 h3 h5
       go_wp2_with (go_at_call 70;refine(class_none hpp _).mono ?_;rintro e w' ⟨⟨n,rfl,hn2,hn3,hn5⟩,rfl⟩)
       go_ret
       exact⟨ret_bool hn.out.symm,rfl⟩
   have hn:Hid (Bod.nameB s.data.toList=true):=Lib.hid (nameB_yes (by rw [HL.out];omega) (by rw [HL.out];omega) (by rw [HA.out];exact hlt) (fun j hj=>HP.out j (by rw [HL.out]at hj;omega)))
   go_wp2_with fail
   go_ret
   exact⟨ret_bool hn.out.symm,rfl⟩
end Go.Proofs.YtidekfgkpindbaaDoor
