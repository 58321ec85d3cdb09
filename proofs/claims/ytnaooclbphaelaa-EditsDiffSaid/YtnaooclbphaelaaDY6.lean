/-
  Texts behind the statement, part 6.
-/
import Derived.Test.YtnaooclbphaelaaDY5
set_option linter.unusedSimpArgs false
set_option linter.unusedVariables false
namespace Go.Proofs.Ytnaooclbphaelaa
open Go Go.RowKit
def tree_e2:SX.Tree :=
(.df (.call 14 [(.ext 14)]) [(.q 0)] .one
(.df (.bin .neq 31) [(.q 23),(.i 0)] .one
(.br 24 []
(.ret (.t [(.k (.slice none 0 0)),(.q 23)]) [none] [])
(.df (.eqr true 22 [(.i .i64),(.i .i64),(.i .i64),(.i .i64),(.i .i64),(.i .i64),(.i .i64),(.i .i64),(.i .i64),(.i .i64),(.i .i64),(.i .i64),(.i .i64),(.i .i64),(.i .i64),(.i .i64),(.i .i64),(.i .i64),(.i .i64),(.i .i64),(.i .i64),(.i .i64)]) ([(.i 2),(.q 2),(.i 0)]++SX.Z 4 3++[(.i 0),(.i 0),(.i 0),(.i 0),(.i 0),(.i 0),(.i 0),(.i 0),(.i 0),(.i 0),(.i 0),(.i 0),(.i 0),(.i 0),(.i 0),(.i 0),(.i 2)]++SX.Z 2 21) .one
(.br 25 []
(.ret (.t [(.k (.slice none 0 0)),(.i 360)]) (List.replicate 13 none) [])
(.df (.bin .geq 3) [(.q 2),(.i 0)] .one
(.br 26 []
(.df (.bin .leq 3) [(.q 2),(.i 64)] .one
(.br 27 []
(.df (.bin .geq 3) [(.q 4),(.i 0)] .one
(.br 28 []
(.df (.bin .leq 3) [(.q 4),(.q 5)] .one
(.br 29 []
(.df (.bin .leq 3) [(.q 5),(.i 4095)] .one
(.br 30 []
(.df (.bin .geq 3) [(.q 6),(.i 1)] .one
(.br 31 []
(.df (.bin .leq 3) [(.q 6),(.i 7)] .one
(.df .not [(.q 32)] .one
(.br 33 []
(.ret (.t [(.k (.slice none 0 0)),(.i 360)]) (List.replicate 16 none) [])
(.df (.len false) [(.q 0)] .one
(.loop [(.i 0),(.cat [])] [.one,.any]
(.df (.bin .lss 3) [(.q 35),(.q 34)] .one
(.br 37 []
(.df .bnd [(.q 0),(.q 35)] .one
(.df (.elems 14 0 14) [(.q 0),(.q 35)] (.ag 14)
(.df (.bin .geq 3) [(.x 39 [2]),(.q 4)] .one
(.br 40 []
(.df (.bin .leq 3) [(.x 39 [2]),(.q 5)] .one
(.br 41 []
(.df (.bin .eql 3) [(.q 2),(.i 0)] .one
(.br 42 []
(.df (.bin .gtr 3) [(.x 39 [6]),(.i 0)] .one
(.br 43 []
(.df (.bin .sub 3) [(.x 39 [6]),(.i 1)] .one
(.df (.bin .add 3) [(.q 44),(.q 6)] .one
(.df (.bin .rem 3) [(.q 45),(.i 8)] .one
(.df (.bin .add 3) [(.q 46),(.i 1)] .one
(.df (.app 14 112 (.own 14 (SX.Y 39 0 6++[(.q 47)]++SX.Y 39 7 7))) [(.cat [(.q 36)]),(.sl 38 0 1 1)] .any
(.df (.bin .add 3) [(.q 35),(.i 1)] .one
(.again 0 [(.q 49),(.cat [(.q 36),(.q 48)])])))))))
(.df (.app 14 112 (.own 14 (SX.Y 39 0 14))) [(.cat [(.q 36)]),(.sl 24 0 1 1)] .any
(.df (.bin .add 3) [(.q 35),(.i 1)] .one
(.again 0 [(.q 45),(.cat [(.q 36),(.q 44)])])))))
(.df (.bin .sub 3) [(.q 2),(.i 1)] .one
(.df (.bin .eql 3) [(.x 39 [1]),(.q 43)] .one
(.br 44 []
(.df (.bin .gtr 3) [(.x 39 [6]),(.i 0)] .one
(.br 45 []
(.df (.bin .sub 3) [(.x 39 [6]),(.i 1)] .one
(.df (.bin .add 3) [(.q 46),(.q 6)] .one
(.df (.bin .rem 3) [(.q 47),(.i 8)] .one
(.df (.bin .add 3) [(.q 48),(.i 1)] .one
(.df (.app 14 112 (.own 14 (SX.Y 39 0 6++[(.q 49)]++SX.Y 39 7 7))) [(.cat [(.q 36)]),(.sl 38 0 1 1)] .any
(.df (.bin .add 3) [(.q 35),(.i 1)] .one
(.again 0 [(.q 51),(.cat [(.q 36),(.q 50)])])))))))
(.df (.app 14 112 (.own 14 (SX.Y 39 0 14))) [(.cat [(.q 36)]),(.sl 24 0 1 1)] .any
(.df (.bin .add 3) [(.q 35),(.i 1)] .one
(.again 0 [(.q 47),(.cat [(.q 36),(.q 46)])])))))
(.df (.app 14 112 (.own 14 (SX.Y 39 0 14))) [(.cat [(.q 36)]),(.sl 24 0 1 1)] .any
(.df (.bin .add 3) [(.q 35),(.i 1)] .one
(.again 0 [(.q 46),(.cat [(.q 36),(.q 45)])]))))))))
(.df (.app 14 112 (.own 14 (SX.Y 39 0 14))) [(.cat [(.q 36)]),(.sl 24 0 1 1)] .any
(.df (.bin .add 3) [(.q 35),(.i 1)] .one
(.again 0 [(.q 43),(.cat [(.q 36),(.q 42)])])))))
(.df (.app 14 112 (.own 14 (SX.Y 39 0 14))) [(.cat [(.q 36)]),(.sl 24 0 1 1)] .any
(.df (.bin .add 3) [(.q 35),(.i 1)] .one
(.again 0 [(.q 42),(.cat [(.q 36),(.q 41)])])))))))
(.df (.call 14 [(.row 14 [(.q 36)])]) [(.row 21)] .one
(.df (.bin .neq 31) [(.q 38),(.i 0)] .one
(.br 39 []
(.ret (.t [(.k (.slice none 0 0)),(.q 38)]) (List.replicate 22 none) [])
(.ret (.t [(.row 21),(.i 0)]) (List.replicate 21 none++[(some ⟨[(.q 36)],26,(.row 14)⟩)]) [])))))))))))
(.ret (.t [(.k (.slice none 0 0)),(.i 360)]) (List.replicate 16 none) [])))
(.ret (.t [(.k (.slice none 0 0)),(.i 360)]) (List.replicate 16 none) [])))
(.ret (.t [(.k (.slice none 0 0)),(.i 360)]) (List.replicate 16 none) [])))
(.ret (.t [(.k (.slice none 0 0)),(.i 360)]) (List.replicate 16 none) [])))
(.ret (.t [(.k (.slice none 0 0)),(.i 360)]) (List.replicate 15 none) [])))
(.ret (.t [(.k (.slice none 0 0)),(.i 360)]) (List.replicate 15 none) []))))))))
def args_e2:List SX.V:=[.x 0 [],.a ([.k (.int .i64 2)]++(List.range 21).map fun j=>.x (2+j) [])]
set_option maxRecDepth 100000 in
theorem run_e2(K A:Value→Nat→List Value→Prop):(SX.run (cxE2 K A) ⟨fun _=>true,[⟨12,13,[(.s 51,.one),(.s 4,.row 14 26)]⟩],2,100⟩ 100000 0 (SX.door 12 Try.f12 args_e2 (List.replicate 23 .one)) [.code (Try.f12.body.getD .skip),.top Try.f12]).strip=tree_e2:=by kernel_rfl
set_option maxRecDepth 100000 in
set_option maxHeartbeats 4000000 in
theorem e2_any(ss:List Sg)(A:Option Addr)(n c:Nat)(role other fr to m sn sd:Int)(sg:Sg)(w:World)(hr:Rd w 14 A n (sgsL ss))(hn:n≤9223372036854775807)(hc:n≤c):Calls Try.prog 12 #[.slice A n c,valE (⟨2,role,other,fr,to,m,sn,sd,sg⟩:Ed)] w fun e w'=>Below w.heap.size w w'∧∃ hdr,e=.returned (.tuple #[hdr,.int .i64 (applyE (⟨2,role,other,fr,to,m,sn,sd,sg⟩:Ed) ss).2])∧SX.SlRet w w' [] hdr 14 (sgsL (applyE (⟨2,role,other,fr,to,m,sn,sd,sg⟩:Ed) ss).1):=by
 refine SX.calls_of_run (C:=cxE2 (fun s sz cells=>s=.slice A n c∧sz=14∧cells=sgsL ss) (fun _ _ _=>False)) (G:=⟨fun _=>true,[⟨12,13,[(.s 51,.one),(.s 4,.row 14 26)]⟩],2,100⟩) (args:=args_e2) (sh:=(List.replicate 23 .one)) (ρ:=([.slice A n c]++cellsE (⟨2,role,other,fr,to,m,sn,sd,sg⟩:Ed))) 100000 tree_e2 (okE2 _ _) Try.func12 rfl (run_e2 _ _) (by kernel_rfl) (by kernel_rfl) (by kernel_rfl) ?_ ?_
 ·rintro W hW s sz cells ⟨rfl,rfl,rfl⟩;exact⟨hr.same0 hW,hc⟩
 have hA:=SX.rd_some hr
 have hln:ss.length=n:=by have:=hr.1;rw [sgsL_len]at this;omega
 have k1:(fun s sz cells=>s=.slice A n c∧sz=14∧cells=sgsL ss) (Value.slice A n c) 14 (sgsL ss):=⟨rfl,rfl,rfl⟩
 have hu:usesE (⟨2,role,other,fr,to,m,sn,sd,sg⟩:Ed)=(⟨2,role,0,fr,to,m,0,0,zeroSg⟩:Ed):=by unfold usesE;rw [if_neg (by show ¬ ((2:Int)=1);decide),if_pos rfl]
 have hrt:rightE (⟨2,role,other,fr,to,m,sn,sd,sg⟩:Ed)↔(0≤role∧role≤64∧0≤fr∧fr≤to∧to≤4095)∧1≤m∧m≤7:=by unfold rightE;rw [if_neg (by show ¬ ((2:Int)=1);decide),if_pos rfl];try simp only [roleE,barsE]
 have hwk:∀ z:Sg,workE (⟨2,role,other,fr,to,m,sn,sd,sg⟩:Ed) z=(if(fr≤z.bar∧z.bar≤to∧(role=0∨z.role=role-1))∧0<z.dir then some [{ z with dir:=(z.dir-1+m) % 8+1 }]else some [z]):=fun z=>by unfold workE;rw [if_neg (by show ¬ ((2:Int)=1);decide),if_pos rfl]
 unfold tree_e2
 refine SX.E (.int .i64 ((chkS ss))) (fun α=>⟨[⟨.slice A n c,14,sgsL ss⟩],⟨by kernel_rfl,rfl,cast (by kernel_rfl) k1,trivial⟩,.inl ⟨rfl,.slice A n c,ss,rfl,by omega,rfl⟩,SX.noAli rfl⟩) ?_
 refine SX.D (.bool (((chkS ss):Int) != 0)) ?_
 refine SX.B (((chkS ss):Int) != 0) (fun h24=>?_) (fun h24=>?_)
 ·try simp only [NRM]at h24
  have hfact:applyE (⟨2,role,other,fr,to,m,sn,sd,sg⟩:Ed) ss=([],chkS ss):=applyE_chk h24
  exact SX.VC_ret fun α W _ hR hS=>⟨hS.below,(.slice none 0 0),Eq.trans (b:=Ending.returned (.tuple #[(.slice none 0 0),.int .i64 ((chkS ss))])) (by kernel_rfl) (by rw [hfact]),(by rw [hfact];exact SX.SlRet.nil)⟩
 try simp only [NRM]at h24
 refine SX.E (.bool (true ^^ decide ((⟨2,role,0,fr,to,m,0,0,zeroSg⟩:Ed)=(⟨2,role,other,fr,to,m,sn,sd,sg⟩:Ed)))) (fun α=>SX.eqr_rel (f:=cellsE) cellsE_inj (y:=(⟨2,role,0,fr,to,m,0,0,zeroSg⟩:Ed)) (z:=(⟨2,role,other,fr,to,m,sn,sd,sg⟩:Ed)) (by kernel_rfl) (by kernel_rfl) (by kernel_rfl)) ?_
 refine SX.B (true ^^ decide ((⟨2,role,0,fr,to,m,0,0,zeroSg⟩:Ed)=(⟨2,role,other,fr,to,m,sn,sd,sg⟩:Ed))) (fun h25=>?_) (fun h25=>?_)
 ·try simp only [NRM]at h25
  have hfact:applyE (⟨2,role,other,fr,to,m,sn,sd,sg⟩:Ed) ss=([],360):=applyE_no h24 (fun hk=>by first|exact h25 (by rw [← hu];exact hk.2.2.1)|(have:=hrt.1 hk.2.2.2;omega)|(have:=hrt.1 hk.2.2.2;have:=okR_iff2.2 this.2.1;omega))
  exact SX.VC_ret fun α W _ hR hS=>⟨hS.below,(.slice none 0 0),Eq.trans (b:=Ending.returned (.tuple #[(.slice none 0 0),.int .i64 360])) (by kernel_rfl) (by rw [hfact]),(by rw [hfact];exact SX.SlRet.nil)⟩
 try simp only [NRM]at h25
 refine SX.D (.bool (decide (role≥0))) ?_
 refine SX.B (decide (role≥0)) (fun h26=>?_) (fun h26=>?_)
 ·try simp only [NRM]at h26
  refine SX.D (.bool (decide (role≤64))) ?_
  refine SX.B (decide (role≤64)) (fun h27=>?_) (fun h27=>?_)
  ·try simp only [NRM]at h27
   refine SX.D (.bool (decide (fr≥0))) ?_
   refine SX.B (decide (fr≥0)) (fun h28=>?_) (fun h28=>?_)
   ·try simp only [NRM]at h28
    refine SX.D (.bool (decide (fr≤to))) ?_
    refine SX.B (decide (fr≤to)) (fun h29=>?_) (fun h29=>?_)
    ·try simp only [NRM]at h29
     refine SX.D (.bool (decide (to≤4095))) ?_
     refine SX.B (decide (to≤4095)) (fun h30=>?_) (fun h30=>?_)
     ·try simp only [NRM]at h30
      refine SX.D (.bool (decide (m≥1))) ?_
      refine SX.B (decide (m≥1)) (fun h31=>?_) (fun h31=>?_)
      ·try simp only [NRM]at h31
       refine SX.D (.bool (decide (m≤7))) ?_
       refine SX.D (.bool (!(decide (m≤7)))) ?_
       refine SX.B (!(decide (m≤7))) (fun h33=>?_) (fun h33=>?_)
       ·try simp only [NRM]at h33
        have hfact:applyE (⟨2,role,other,fr,to,m,sn,sd,sg⟩:Ed) ss=([],360):=applyE_no h24 (fun hk=>by first|exact h25 (by rw [← hu];exact hk.2.2.1)|(have:=hrt.1 hk.2.2.2;omega)|(have:=hrt.1 hk.2.2.2;have:=okR_iff2.2 this.2.1;omega))
        exact SX.VC_ret fun α W _ hR hS=>⟨hS.below,(.slice none 0 0),Eq.trans (b:=Ending.returned (.tuple #[(.slice none 0 0),.int .i64 360])) (by kernel_rfl) (by rw [hfact]),(by rw [hfact];exact SX.SlRet.nil)⟩
       try simp only [NRM]at h33
       refine SX.D (.int .i64 (((n:Nat):Int))) ?_
       have hok:okE (⟨2,role,other,fr,to,m,sn,sd,sg⟩:Ed):=⟨by show(1:Int)≤2;decide,by show(2:Int)≤7;decide,hu.trans h25,hrt.2 (by first|omega|(refine⟨by omega,?_⟩;exact⟨okR_iff2.1 (by assumption),by omega,by omega⟩))⟩
       obtain⟨hss,hs4⟩:=chkS_ok h24
       refine SX.VC_loop (fun xs=>∃ (i:Nat) (cur:List Sg),xs=[.int .i64 (i:Int),.agg (sgsL cur).toArray]∧i≤n∧accE (⟨2,role,other,fr,to,m,sn,sd,sg⟩:Ed) (ss.take i)=some cur) (fun xs=>match xs with|[.int _ i,_]=>n-i.toNat|_=>0) (fun α=>⟨0,[],by kernel_rfl,by omega,rfl⟩) ?_
       rintro xs-⟨i,cur,rfl,hin,hacc⟩
       have hcl:=acc_len hacc
       refine SX.D (.bool (decide (((i:Nat):Int)<((n:Nat):Int)))) ?_
       refine SX.B (decide (((i:Nat):Int)<((n:Nat):Int))) (fun h37=>?_) (fun h37=>?_)
       ·try simp only [NRM]at h37
        obtain⟨z,hz⟩:∃ z,ss[i]?=some z:=⟨_,List.getElem?_eq_getElem (by omega)⟩
        have zb:=hss.1 z (List.mem_of_getElem? hz)
        rw [Sg.ok_iff]at zb
        obtain⟨⟨z1,z2⟩,⟨z3,z4⟩,⟨z5,z6⟩,⟨z7,z8⟩,⟨z9,z10⟩,⟨z11,z12⟩,⟨z13,z14⟩,⟨z15,z16⟩,⟨z17,z18⟩,⟨z19,z20⟩,z21⟩:=zb
        refine SX.E (.bool true) (fun α=>SX.extBnd (A:=A) (n:=n) (c:=c) (j:=i) hA (by kernel_rfl) (by kernel_rfl) (by omega)) ?_
        refine SX.E (.agg (cellsSg z).toArray) (fun α=>SX.extElems (f:=cellsSg) (l:=ss) (A:=A) (n:=n) (c:=c) (j:=i) (z:=z) (fun _=>rfl) hA (by kernel_rfl) (by kernel_rfl) (by omega) (cast (by kernel_rfl) k1) hz) ?_
        refine SX.D (.bool (decide (z.bar≥fr))) ?_
        refine SX.B (decide (z.bar≥fr)) (fun h40=>?_) (fun h40=>?_)
        ·try simp only [NRM]at h40
         refine SX.D (.bool (decide (z.bar≤to))) ?_
         refine SX.B (decide (z.bar≤to)) (fun h41=>?_) (fun h41=>?_)
         ·try simp only [NRM]at h41
          refine SX.D (.bool ((role:Int) == 0)) ?_
          refine SX.B ((role:Int) == 0) (fun h42=>?_) (fun h42=>?_)
          ·try simp only [NRM]at h42
           refine SX.D (.bool (decide (z.dir>0))) ?_
           refine SX.B (decide (z.dir>0)) (fun h43=>?_) (fun h43=>?_)
           ·try simp only [NRM]at h43
            refine SX.E (.int .i64 (z.dir-1)) (fun α=>SX.W (z.dir-1)) ?_
            refine SX.E (.int .i64 ((z.dir-1)+m)) (fun α=>SX.W ((z.dir-1)+m)) ?_
            refine SX.E (.int .i64 (((z.dir-1)+m) % 8)) (fun α=>Eq.trans (b:=SX.binV .rem (.int .i64 ((z.dir-1)+m)) (.int .i64 8)) (by kernel_rfl) (rem8 (by omega) (by omega))) ?_
            refine SX.E (.int .i64 ((((z.dir-1)+m) % 8)+1)) (fun α=>Eq.trans (b:=some (.int .i64 (IntKind.i64.wrap ((((z.dir-1)+m) % 8)+1)))) (by kernel_rfl) (by rw [wrap_i64 (by omega) (by omega)])) ?_
            refine SX.E (Value.agg (([(⟨z.id,z.role,z.bar,z.mark,z.kind,z.side,(((z.dir-1)+m) % 8)+1,z.level,z.size,z.with_,z.fn,z.fd,z.tn,z.td⟩:Sg)]).flatMap cellsSg).toArray) (fun α=>SX.app_rel (f:=cellsSg) (l1:=cur) (l2:=[(⟨z.id,z.role,z.bar,z.mark,z.kind,z.side,(((z.dir-1)+m) % 8)+1,z.level,z.size,z.with_,z.fn,z.fd,z.tn,z.td⟩:Sg)]) (fun _=>rfl) cellsSg_one (by decide) (SX.cat1 (by kernel_rfl)) (SX.src_own (by kernel_rfl)) (by simp only [LL];omega) (by simp only [LL];omega)) ?_
            refine SX.E (.int .i64 (((i+1:Nat):Int))) (fun α=>SX.W1 i) ?_
            exact SX.VC_again fun α=>⟨⟨i+1,cur++[(⟨z.id,z.role,z.bar,z.mark,z.kind,z.side,(((z.dir-1)+m) % 8)+1,z.level,z.size,z.with_,z.fn,z.fd,z.tn,z.td⟩:Sg)],Eq.trans (b:=[.int .i64 ((i+1:Nat):Int),.agg ([Value.agg (sgsL cur).toArray,Value.agg (([(⟨z.id,z.role,z.bar,z.mark,z.kind,z.side,(((z.dir-1)+m) % 8)+1,z.level,z.size,z.with_,z.fn,z.fd,z.tn,z.td⟩:Sg)]).flatMap cellsSg).toArray].flatMap SX.cellsV).toArray]) (by kernel_rfl) (by simp [SX.cellsV,sgsL]),by omega,acc_step hz hacc (by rw [hwk];(try simp only [mirrorS,swapN]);(repeat' split)<;>first|rfl|(exfalso;omega))⟩,cast (by kernel_rfl) (show n-((i+1:Nat):Int).toNat<n-(i:Int).toNat by omega)⟩
           try simp only [NRM]at h43
           refine SX.E (Value.agg (([z]).flatMap cellsSg).toArray) (fun α=>SX.app_rel (f:=cellsSg) (l1:=cur) (l2:=[z]) (fun _=>rfl) cellsSg_one (by decide) (SX.cat1 (by kernel_rfl)) (SX.src_own (by kernel_rfl)) (by simp only [LL];omega) (by simp only [LL];omega)) ?_
           refine SX.E (.int .i64 (((i+1:Nat):Int))) (fun α=>SX.W1 i) ?_
           exact SX.VC_again fun α=>⟨⟨i+1,cur++[z],Eq.trans (b:=[.int .i64 ((i+1:Nat):Int),.agg ([Value.agg (sgsL cur).toArray,Value.agg (([z]).flatMap cellsSg).toArray].flatMap SX.cellsV).toArray]) (by kernel_rfl) (by simp [SX.cellsV,sgsL]),by omega,acc_step hz hacc (by rw [hwk];(try simp only [mirrorS,swapN]);(repeat' split)<;>first|rfl|(exfalso;omega))⟩,cast (by kernel_rfl) (show n-((i+1:Nat):Int).toNat<n-(i:Int).toNat by omega)⟩
          try simp only [NRM]at h42
          refine SX.E (.int .i64 (role-1)) (fun α=>SX.W (role-1)) ?_
          refine SX.D (.bool ((z.role:Int) == role-1)) ?_
          refine SX.B ((z.role:Int) == role-1) (fun h44=>?_) (fun h44=>?_)
          ·try simp only [NRM]at h44
           refine SX.D (.bool (decide (z.dir>0))) ?_
           refine SX.B (decide (z.dir>0)) (fun h45=>?_) (fun h45=>?_)
           ·try simp only [NRM]at h45
            refine SX.E (.int .i64 (z.dir-1)) (fun α=>SX.W (z.dir-1)) ?_
            refine SX.E (.int .i64 ((z.dir-1)+m)) (fun α=>SX.W ((z.dir-1)+m)) ?_
            refine SX.E (.int .i64 (((z.dir-1)+m) % 8)) (fun α=>Eq.trans (b:=SX.binV .rem (.int .i64 ((z.dir-1)+m)) (.int .i64 8)) (by kernel_rfl) (rem8 (by omega) (by omega))) ?_
            refine SX.E (.int .i64 ((((z.dir-1)+m) % 8)+1)) (fun α=>Eq.trans (b:=some (.int .i64 (IntKind.i64.wrap ((((z.dir-1)+m) % 8)+1)))) (by kernel_rfl) (by rw [wrap_i64 (by omega) (by omega)])) ?_
            refine SX.E (Value.agg (([(⟨z.id,z.role,z.bar,z.mark,z.kind,z.side,(((z.dir-1)+m) % 8)+1,z.level,z.size,z.with_,z.fn,z.fd,z.tn,z.td⟩:Sg)]).flatMap cellsSg).toArray) (fun α=>SX.app_rel (f:=cellsSg) (l1:=cur) (l2:=[(⟨z.id,z.role,z.bar,z.mark,z.kind,z.side,(((z.dir-1)+m) % 8)+1,z.level,z.size,z.with_,z.fn,z.fd,z.tn,z.td⟩:Sg)]) (fun _=>rfl) cellsSg_one (by decide) (SX.cat1 (by kernel_rfl)) (SX.src_own (by kernel_rfl)) (by simp only [LL];omega) (by simp only [LL];omega)) ?_
            refine SX.E (.int .i64 (((i+1:Nat):Int))) (fun α=>SX.W1 i) ?_
            exact SX.VC_again fun α=>⟨⟨i+1,cur++[(⟨z.id,z.role,z.bar,z.mark,z.kind,z.side,(((z.dir-1)+m) % 8)+1,z.level,z.size,z.with_,z.fn,z.fd,z.tn,z.td⟩:Sg)],Eq.trans (b:=[.int .i64 ((i+1:Nat):Int),.agg ([Value.agg (sgsL cur).toArray,Value.agg (([(⟨z.id,z.role,z.bar,z.mark,z.kind,z.side,(((z.dir-1)+m) % 8)+1,z.level,z.size,z.with_,z.fn,z.fd,z.tn,z.td⟩:Sg)]).flatMap cellsSg).toArray].flatMap SX.cellsV).toArray]) (by kernel_rfl) (by simp [SX.cellsV,sgsL]),by omega,acc_step hz hacc (by rw [hwk];(try simp only [mirrorS,swapN]);(repeat' split)<;>first|rfl|(exfalso;omega))⟩,cast (by kernel_rfl) (show n-((i+1:Nat):Int).toNat<n-(i:Int).toNat by omega)⟩
           try simp only [NRM]at h45
           refine SX.E (Value.agg (([z]).flatMap cellsSg).toArray) (fun α=>SX.app_rel (f:=cellsSg) (l1:=cur) (l2:=[z]) (fun _=>rfl) cellsSg_one (by decide) (SX.cat1 (by kernel_rfl)) (SX.src_own (by kernel_rfl)) (by simp only [LL];omega) (by simp only [LL];omega)) ?_
           refine SX.E (.int .i64 (((i+1:Nat):Int))) (fun α=>SX.W1 i) ?_
           exact SX.VC_again fun α=>⟨⟨i+1,cur++[z],Eq.trans (b:=[.int .i64 ((i+1:Nat):Int),.agg ([Value.agg (sgsL cur).toArray,Value.agg (([z]).flatMap cellsSg).toArray].flatMap SX.cellsV).toArray]) (by kernel_rfl) (by simp [SX.cellsV,sgsL]),by omega,acc_step hz hacc (by rw [hwk];(try simp only [mirrorS,swapN]);(repeat' split)<;>first|rfl|(exfalso;omega))⟩,cast (by kernel_rfl) (show n-((i+1:Nat):Int).toNat<n-(i:Int).toNat by omega)⟩
          try simp only [NRM]at h44
          refine SX.E (Value.agg (([z]).flatMap cellsSg).toArray) (fun α=>SX.app_rel (f:=cellsSg) (l1:=cur) (l2:=[z]) (fun _=>rfl) cellsSg_one (by decide) (SX.cat1 (by kernel_rfl)) (SX.src_own (by kernel_rfl)) (by simp only [LL];omega) (by simp only [LL];omega)) ?_
          refine SX.E (.int .i64 (((i+1:Nat):Int))) (fun α=>SX.W1 i) ?_
          exact SX.VC_again fun α=>⟨⟨i+1,cur++[z],Eq.trans (b:=[.int .i64 ((i+1:Nat):Int),.agg ([Value.agg (sgsL cur).toArray,Value.agg (([z]).flatMap cellsSg).toArray].flatMap SX.cellsV).toArray]) (by kernel_rfl) (by simp [SX.cellsV,sgsL]),by omega,acc_step hz hacc (by rw [hwk];(try simp only [mirrorS,swapN]);(repeat' split)<;>first|rfl|(exfalso;omega))⟩,cast (by kernel_rfl) (show n-((i+1:Nat):Int).toNat<n-(i:Int).toNat by omega)⟩
         try simp only [NRM]at h41
         refine SX.E (Value.agg (([z]).flatMap cellsSg).toArray) (fun α=>SX.app_rel (f:=cellsSg) (l1:=cur) (l2:=[z]) (fun _=>rfl) cellsSg_one (by decide) (SX.cat1 (by kernel_rfl)) (SX.src_own (by kernel_rfl)) (by simp only [LL];omega) (by simp only [LL];omega)) ?_
         refine SX.E (.int .i64 (((i+1:Nat):Int))) (fun α=>SX.W1 i) ?_
         exact SX.VC_again fun α=>⟨⟨i+1,cur++[z],Eq.trans (b:=[.int .i64 ((i+1:Nat):Int),.agg ([Value.agg (sgsL cur).toArray,Value.agg (([z]).flatMap cellsSg).toArray].flatMap SX.cellsV).toArray]) (by kernel_rfl) (by simp [SX.cellsV,sgsL]),by omega,acc_step hz hacc (by rw [hwk];(try simp only [mirrorS,swapN]);(repeat' split)<;>first|rfl|(exfalso;omega))⟩,cast (by kernel_rfl) (show n-((i+1:Nat):Int).toNat<n-(i:Int).toNat by omega)⟩
        try simp only [NRM]at h40
        refine SX.E (Value.agg (([z]).flatMap cellsSg).toArray) (fun α=>SX.app_rel (f:=cellsSg) (l1:=cur) (l2:=[z]) (fun _=>rfl) cellsSg_one (by decide) (SX.cat1 (by kernel_rfl)) (SX.src_own (by kernel_rfl)) (by simp only [LL];omega) (by simp only [LL];omega)) ?_
        refine SX.E (.int .i64 (((i+1:Nat):Int))) (fun α=>SX.W1 i) ?_
        exact SX.VC_again fun α=>⟨⟨i+1,cur++[z],Eq.trans (b:=[.int .i64 ((i+1:Nat):Int),.agg ([Value.agg (sgsL cur).toArray,Value.agg (([z]).flatMap cellsSg).toArray].flatMap SX.cellsV).toArray]) (by kernel_rfl) (by simp [SX.cellsV,sgsL]),by omega,acc_step hz hacc (by rw [hwk];(try simp only [mirrorS,swapN]);(repeat' split)<;>first|rfl|(exfalso;omega))⟩,cast (by kernel_rfl) (show n-((i+1:Nat):Int).toNat<n-(i:Int).toNat by omega)⟩
       try simp only [NRM]at h37
       refine SX.E (.int .i64 ((chkS cur))) (fun α=>⟨[⟨(α 21).h,14,sgsL cur⟩],⟨Eq.trans (b:=(⟨(α 21).h,14,[Value.agg (sgsL cur).toArray].flatMap SX.cellsV⟩:SX.Arg)) (by simp [SX.cellsV]) (by kernel_rfl),trivial⟩,.inl ⟨rfl,_,cur,rfl,by omega,rfl⟩,SX.noAli rfl⟩) ?_
       refine SX.D (.bool (((chkS cur):Int) != 0)) ?_
       refine SX.B (((chkS cur):Int) != 0) (fun h39=>?_) (fun h39=>?_)
       ·try simp only [NRM]at h39
        have hfact:applyE (⟨2,role,other,fr,to,m,sn,sd,sg⟩:Ed) ss=([],chkS cur):=applyE_out h24 hok (by rw [← hacc,List.take_of_length_le (by omega)]) (by assumption)
        exact SX.VC_ret fun α W _ hR hS=>⟨hS.below,(.slice none 0 0),Eq.trans (b:=Ending.returned (.tuple #[(.slice none 0 0),.int .i64 ((chkS cur))])) (by kernel_rfl) (by rw [hfact]),(by rw [hfact];exact SX.SlRet.nil)⟩
       try simp only [NRM]at h39
       have hfact:applyE (⟨2,role,other,fr,to,m,sn,sd,sg⟩:Ed) ss=(cur,0):=applyE_ok h24 hok (by rw [← hacc,List.take_of_length_le (by omega)]) (by omega)
       exact SX.VC_ret fun α W _ hR hS=>⟨hS.below,(α 21).h,Eq.trans (b:=Ending.returned (.tuple #[(α 21).h,.int .i64 0])) (by kernel_rfl) (by rw [hfact]),SX.SlRet.row hS (n:=21) (b:=(⟨[(.x 36 [])],26,(.row 14)⟩:SX.Blk)) (by kernel_rfl) rfl (hR 21 _ (by kernel_rfl)) (Eq.trans (b:=[Value.agg (sgsL cur).toArray].flatMap SX.cellsV) (by kernel_rfl) (by rw [hfact];simp [SX.cellsV]))⟩
      try simp only [NRM]at h31
      have hfact:applyE (⟨2,role,other,fr,to,m,sn,sd,sg⟩:Ed) ss=([],360):=applyE_no h24 (fun hk=>by first|exact h25 (by rw [← hu];exact hk.2.2.1)|(have:=hrt.1 hk.2.2.2;omega)|(have:=hrt.1 hk.2.2.2;have:=okR_iff2.2 this.2.1;omega))
      exact SX.VC_ret fun α W _ hR hS=>⟨hS.below,(.slice none 0 0),Eq.trans (b:=Ending.returned (.tuple #[(.slice none 0 0),.int .i64 360])) (by kernel_rfl) (by rw [hfact]),(by rw [hfact];exact SX.SlRet.nil)⟩
     try simp only [NRM]at h30
     have hfact:applyE (⟨2,role,other,fr,to,m,sn,sd,sg⟩:Ed) ss=([],360):=applyE_no h24 (fun hk=>by first|exact h25 (by rw [← hu];exact hk.2.2.1)|(have:=hrt.1 hk.2.2.2;omega)|(have:=hrt.1 hk.2.2.2;have:=okR_iff2.2 this.2.1;omega))
     exact SX.VC_ret fun α W _ hR hS=>⟨hS.below,(.slice none 0 0),Eq.trans (b:=Ending.returned (.tuple #[(.slice none 0 0),.int .i64 360])) (by kernel_rfl) (by rw [hfact]),(by rw [hfact];exact SX.SlRet.nil)⟩
    try simp only [NRM]at h29
    have hfact:applyE (⟨2,role,other,fr,to,m,sn,sd,sg⟩:Ed) ss=([],360):=applyE_no h24 (fun hk=>by first|exact h25 (by rw [← hu];exact hk.2.2.1)|(have:=hrt.1 hk.2.2.2;omega)|(have:=hrt.1 hk.2.2.2;have:=okR_iff2.2 this.2.1;omega))
    exact SX.VC_ret fun α W _ hR hS=>⟨hS.below,(.slice none 0 0),Eq.trans (b:=Ending.returned (.tuple #[(.slice none 0 0),.int .i64 360])) (by kernel_rfl) (by rw [hfact]),(by rw [hfact];exact SX.SlRet.nil)⟩
   try simp only [NRM]at h28
   have hfact:applyE (⟨2,role,other,fr,to,m,sn,sd,sg⟩:Ed) ss=([],360):=applyE_no h24 (fun hk=>by first|exact h25 (by rw [← hu];exact hk.2.2.1)|(have:=hrt.1 hk.2.2.2;omega)|(have:=hrt.1 hk.2.2.2;have:=okR_iff2.2 this.2.1;omega))
   exact SX.VC_ret fun α W _ hR hS=>⟨hS.below,(.slice none 0 0),Eq.trans (b:=Ending.returned (.tuple #[(.slice none 0 0),.int .i64 360])) (by kernel_rfl) (by rw [hfact]),(by rw [hfact];exact SX.SlRet.nil)⟩
  try simp only [NRM]at h27
  have hfact:applyE (⟨2,role,other,fr,to,m,sn,sd,sg⟩:Ed) ss=([],360):=applyE_no h24 (fun hk=>by first|exact h25 (by rw [← hu];exact hk.2.2.1)|(have:=hrt.1 hk.2.2.2;omega)|(have:=hrt.1 hk.2.2.2;have:=okR_iff2.2 this.2.1;omega))
  exact SX.VC_ret fun α W _ hR hS=>⟨hS.below,(.slice none 0 0),Eq.trans (b:=Ending.returned (.tuple #[(.slice none 0 0),.int .i64 360])) (by kernel_rfl) (by rw [hfact]),(by rw [hfact];exact SX.SlRet.nil)⟩
 try simp only [NRM]at h26
 have hfact:applyE (⟨2,role,other,fr,to,m,sn,sd,sg⟩:Ed) ss=([],360):=applyE_no h24 (fun hk=>by first|exact h25 (by rw [← hu];exact hk.2.2.1)|(have:=hrt.1 hk.2.2.2;omega)|(have:=hrt.1 hk.2.2.2;have:=okR_iff2.2 this.2.1;omega))
 exact SX.VC_ret fun α W _ hR hS=>⟨hS.below,(.slice none 0 0),Eq.trans (b:=Ending.returned (.tuple #[(.slice none 0 0),.int .i64 360])) (by kernel_rfl) (by rw [hfact]),(by rw [hfact];exact SX.SlRet.nil)⟩
def tree_e1:SX.Tree :=
(.df (.call 14 [(.ext 14)]) [(.q 0)] .one
(.df (.bin .neq 31) [(.q 23),(.i 0)] .one
(.br 24 []
(.ret (.t [(.k (.slice none 0 0)),(.q 23)]) [none] [])
(.df (.eqr true 22 [(.i .i64),(.i .i64),(.i .i64),(.i .i64),(.i .i64),(.i .i64),(.i .i64),(.i .i64),(.i .i64),(.i .i64),(.i .i64),(.i .i64),(.i .i64),(.i .i64),(.i .i64),(.i .i64),(.i .i64),(.i .i64),(.i .i64),(.i .i64),(.i .i64),(.i .i64)]) ([(.i 1),(.q 2),(.i 0),(.q 4),(.q 5),(.i 0),(.i 0),(.i 0),(.i 0),(.i 0),(.i 0),(.i 0),(.i 0),(.i 0),(.i 0),(.i 0),(.i 0),(.i 0),(.i 0),(.i 0),(.i 0),(.i 0),(.i 1)]++SX.Z 2 21) .one
(.br 25 []
(.ret (.t [(.k (.slice none 0 0)),(.i 360)]) (List.replicate 10 none) [])
(.df (.bin .geq 3) [(.q 2),(.i 0)] .one
(.br 26 []
(.df (.bin .leq 3) [(.q 2),(.i 64)] .one
(.br 27 []
(.df (.bin .geq 3) [(.q 4),(.i 0)] .one
(.br 28 []
(.df (.bin .leq 3) [(.q 4),(.q 5)] .one
(.br 29 []
(.df (.bin .leq 3) [(.q 5),(.i 4095)] .one
(.df .not [(.q 30)] .one
(.br 31 []
(.ret (.t [(.k (.slice none 0 0)),(.i 360)]) (List.replicate 12 none) [])
(.df (.len false) [(.q 0)] .one
(.loop [(.i 0),(.cat [])] [.one,.any]
(.df (.bin .lss 3) [(.q 33),(.q 32)] .one
(.br 35 []
(.df .bnd [(.q 0),(.q 33)] .one
(.df (.elems 14 0 14) [(.q 0),(.q 33)] (.ag 14)
(.df (.bin .geq 3) [(.x 37 [2]),(.q 4)] .one
(.br 38 []
(.df (.bin .leq 3) [(.x 37 [2]),(.q 5)] .one
(.br 39 []
(.df (.bin .eql 3) [(.q 2),(.i 0)] .one
(.br 40 []
(.df (.bin .eql 3) [(.x 37 [5]),(.i 1)] .one
(.br 41 []
(.df (.bin .gtr 3) [(.x 37 [6]),(.i 1)] .one
(.br 42 []
(.df (.bin .sub 3) [(.i 10),(.x 37 [6])] .one
(.df (.bin .eql 3) [(.x 37 [4]),(.i 6)] .one
(.br 44 []
(.df (.bin .geq 3) [(.x 37 [8]),(.i 1)] .one
(.br 45 []
(.df (.bin .leq 3) [(.x 37 [8]),(.i 7)] .one
(.br 46 []
(.df (.bin .sub 3) [(.i 8),(.x 37 [8])] .one
(.df (.app 14 112 (.own 14 (SX.Y 37 0 5++[(.i 2),(.q 43),(.x 37 [7]),(.q 47)]++SX.Y 37 9 5))) [(.cat [(.q 34)]),(.sl 20 0 1 1)] .any
(.df (.bin .add 3) [(.q 33),(.i 1)] .one
(.again 0 [(.q 49),(.cat [(.q 34),(.q 48)])]))))
(.df (.app 14 112 (.own 14 (SX.Y 37 0 5++[(.i 2),(.q 43)]++SX.Y 37 7 7))) [(.cat [(.q 34)]),(.sl 20 0 1 1)] .any
(.df (.bin .add 3) [(.q 33),(.i 1)] .one
(.again 0 [(.q 48),(.cat [(.q 34),(.q 47)])])))))
(.df (.app 14 112 (.own 14 (SX.Y 37 0 5++[(.i 2),(.q 43)]++SX.Y 37 7 7))) [(.cat [(.q 34)]),(.sl 20 0 1 1)] .any
(.df (.bin .add 3) [(.q 33),(.i 1)] .one
(.again 0 [(.q 47),(.cat [(.q 34),(.q 46)])])))))
(.df (.app 14 112 (.own 14 (SX.Y 37 0 5++[(.i 2),(.q 43)]++SX.Y 37 7 7))) [(.cat [(.q 34)]),(.sl 20 0 1 1)] .any
(.df (.bin .add 3) [(.q 33),(.i 1)] .one
(.again 0 [(.q 46),(.cat [(.q 34),(.q 45)])]))))))
(.df (.bin .eql 3) [(.x 37 [4]),(.i 6)] .one
(.br 43 []
(.df (.bin .geq 3) [(.x 37 [8]),(.i 1)] .one
(.br 44 []
(.df (.bin .leq 3) [(.x 37 [8]),(.i 7)] .one
(.br 45 []
(.df (.bin .sub 3) [(.i 8),(.x 37 [8])] .one
(.df (.app 14 112 (.own 14 (SX.Y 37 0 5++[(.i 2),(.x 37 [6]),(.x 37 [7]),(.q 46)]++SX.Y 37 9 5))) [(.cat [(.q 34)]),(.sl 20 0 1 1)] .any
(.df (.bin .add 3) [(.q 33),(.i 1)] .one
(.again 0 [(.q 48),(.cat [(.q 34),(.q 47)])]))))
(.df (.app 14 112 (.own 14 (SX.Y 37 0 5++[(.i 2)]++SX.Y 37 6 8))) [(.cat [(.q 34)]),(.sl 20 0 1 1)] .any
(.df (.bin .add 3) [(.q 33),(.i 1)] .one
(.again 0 [(.q 47),(.cat [(.q 34),(.q 46)])])))))
(.df (.app 14 112 (.own 14 (SX.Y 37 0 5++[(.i 2)]++SX.Y 37 6 8))) [(.cat [(.q 34)]),(.sl 20 0 1 1)] .any
(.df (.bin .add 3) [(.q 33),(.i 1)] .one
(.again 0 [(.q 46),(.cat [(.q 34),(.q 45)])])))))
(.df (.app 14 112 (.own 14 (SX.Y 37 0 5++[(.i 2)]++SX.Y 37 6 8))) [(.cat [(.q 34)]),(.sl 20 0 1 1)] .any
(.df (.bin .add 3) [(.q 33),(.i 1)] .one
(.again 0 [(.q 45),(.cat [(.q 34),(.q 44)])])))))))
(.df (.bin .eql 3) [(.x 37 [5]),(.i 2)] .one
(.br 42 []
(.df (.bin .gtr 3) [(.x 37 [6]),(.i 1)] .one
(.br 43 []
(.df (.bin .sub 3) [(.i 10),(.x 37 [6])] .one
(.df (.bin .eql 3) [(.x 37 [4]),(.i 6)] .one
(.br 45 []
(.df (.bin .geq 3) [(.x 37 [8]),(.i 1)] .one
(.br 46 []
(.df (.bin .leq 3) [(.x 37 [8]),(.i 7)] .one
(.br 47 []
(.df (.bin .sub 3) [(.i 8),(.x 37 [8])] .one
(.df (.app 14 112 (.own 14 (SX.Y 37 0 5++[(.i 1),(.q 44),(.x 37 [7]),(.q 48)]++SX.Y 37 9 5))) [(.cat [(.q 34)]),(.sl 20 0 1 1)] .any
(.df (.bin .add 3) [(.q 33),(.i 1)] .one
(.again 0 [(.q 50),(.cat [(.q 34),(.q 49)])]))))
(.df (.app 14 112 (.own 14 (SX.Y 37 0 5++[(.i 1),(.q 44)]++SX.Y 37 7 7))) [(.cat [(.q 34)]),(.sl 20 0 1 1)] .any
(.df (.bin .add 3) [(.q 33),(.i 1)] .one
(.again 0 [(.q 49),(.cat [(.q 34),(.q 48)])])))))
(.df (.app 14 112 (.own 14 (SX.Y 37 0 5++[(.i 1),(.q 44)]++SX.Y 37 7 7))) [(.cat [(.q 34)]),(.sl 20 0 1 1)] .any
(.df (.bin .add 3) [(.q 33),(.i 1)] .one
(.again 0 [(.q 48),(.cat [(.q 34),(.q 47)])])))))
(.df (.app 14 112 (.own 14 (SX.Y 37 0 5++[(.i 1),(.q 44)]++SX.Y 37 7 7))) [(.cat [(.q 34)]),(.sl 20 0 1 1)] .any
(.df (.bin .add 3) [(.q 33),(.i 1)] .one
(.again 0 [(.q 47),(.cat [(.q 34),(.q 46)])]))))))
(.df (.bin .eql 3) [(.x 37 [4]),(.i 6)] .one
(.br 44 []
(.df (.bin .geq 3) [(.x 37 [8]),(.i 1)] .one
(.br 45 []
(.df (.bin .leq 3) [(.x 37 [8]),(.i 7)] .one
(.br 46 []
(.df (.bin .sub 3) [(.i 8),(.x 37 [8])] .one
(.df (.app 14 112 (.own 14 (SX.Y 37 0 5++[(.i 1),(.x 37 [6]),(.x 37 [7]),(.q 47)]++SX.Y 37 9 5))) [(.cat [(.q 34)]),(.sl 20 0 1 1)] .any
(.df (.bin .add 3) [(.q 33),(.i 1)] .one
(.again 0 [(.q 49),(.cat [(.q 34),(.q 48)])]))))
(.df (.app 14 112 (.own 14 (SX.Y 37 0 5++[(.i 1)]++SX.Y 37 6 8))) [(.cat [(.q 34)]),(.sl 20 0 1 1)] .any
(.df (.bin .add 3) [(.q 33),(.i 1)] .one
(.again 0 [(.q 48),(.cat [(.q 34),(.q 47)])])))))
(.df (.app 14 112 (.own 14 (SX.Y 37 0 5++[(.i 1)]++SX.Y 37 6 8))) [(.cat [(.q 34)]),(.sl 20 0 1 1)] .any
(.df (.bin .add 3) [(.q 33),(.i 1)] .one
(.again 0 [(.q 47),(.cat [(.q 34),(.q 46)])])))))
(.df (.app 14 112 (.own 14 (SX.Y 37 0 5++[(.i 1)]++SX.Y 37 6 8))) [(.cat [(.q 34)]),(.sl 20 0 1 1)] .any
(.df (.bin .add 3) [(.q 33),(.i 1)] .one
(.again 0 [(.q 46),(.cat [(.q 34),(.q 45)])])))))))
(.df (.bin .gtr 3) [(.x 37 [6]),(.i 1)] .one
(.br 43 []
(.df (.bin .sub 3) [(.i 10),(.x 37 [6])] .one
(.df (.bin .eql 3) [(.x 37 [4]),(.i 6)] .one
(.br 45 []
(.df (.bin .geq 3) [(.x 37 [8]),(.i 1)] .one
(.br 46 []
(.df (.bin .leq 3) [(.x 37 [8]),(.i 7)] .one
(.br 47 []
(.df (.bin .sub 3) [(.i 8),(.x 37 [8])] .one
(.df (.app 14 112 (.own 14 (SX.Y 37 0 6++[(.q 44),(.x 37 [7]),(.q 48)]++SX.Y 37 9 5))) [(.cat [(.q 34)]),(.sl 20 0 1 1)] .any
(.df (.bin .add 3) [(.q 33),(.i 1)] .one
(.again 0 [(.q 50),(.cat [(.q 34),(.q 49)])]))))
(.df (.app 14 112 (.own 14 (SX.Y 37 0 6++[(.q 44)]++SX.Y 37 7 7))) [(.cat [(.q 34)]),(.sl 20 0 1 1)] .any
(.df (.bin .add 3) [(.q 33),(.i 1)] .one
(.again 0 [(.q 49),(.cat [(.q 34),(.q 48)])])))))
(.df (.app 14 112 (.own 14 (SX.Y 37 0 6++[(.q 44)]++SX.Y 37 7 7))) [(.cat [(.q 34)]),(.sl 20 0 1 1)] .any
(.df (.bin .add 3) [(.q 33),(.i 1)] .one
(.again 0 [(.q 48),(.cat [(.q 34),(.q 47)])])))))
(.df (.app 14 112 (.own 14 (SX.Y 37 0 6++[(.q 44)]++SX.Y 37 7 7))) [(.cat [(.q 34)]),(.sl 20 0 1 1)] .any
(.df (.bin .add 3) [(.q 33),(.i 1)] .one
(.again 0 [(.q 47),(.cat [(.q 34),(.q 46)])]))))))
(.df (.bin .eql 3) [(.x 37 [4]),(.i 6)] .one
(.br 44 []
(.df (.bin .geq 3) [(.x 37 [8]),(.i 1)] .one
(.br 45 []
(.df (.bin .leq 3) [(.x 37 [8]),(.i 7)] .one
(.br 46 []
(.df (.bin .sub 3) [(.i 8),(.x 37 [8])] .one
(.df (.app 14 112 (.own 14 (SX.Y 37 0 8++[(.q 47)]++SX.Y 37 9 5))) [(.cat [(.q 34)]),(.sl 20 0 1 1)] .any
(.df (.bin .add 3) [(.q 33),(.i 1)] .one
(.again 0 [(.q 49),(.cat [(.q 34),(.q 48)])]))))
(.df (.app 14 112 (.own 14 (SX.Y 37 0 14))) [(.cat [(.q 34)]),(.sl 20 0 1 1)] .any
(.df (.bin .add 3) [(.q 33),(.i 1)] .one
(.again 0 [(.q 48),(.cat [(.q 34),(.q 47)])])))))
(.df (.app 14 112 (.own 14 (SX.Y 37 0 14))) [(.cat [(.q 34)]),(.sl 20 0 1 1)] .any
(.df (.bin .add 3) [(.q 33),(.i 1)] .one
(.again 0 [(.q 47),(.cat [(.q 34),(.q 46)])])))))
(.df (.app 14 112 (.own 14 (SX.Y 37 0 14))) [(.cat [(.q 34)]),(.sl 20 0 1 1)] .any
(.df (.bin .add 3) [(.q 33),(.i 1)] .one
(.again 0 [(.q 46),(.cat [(.q 34),(.q 45)])])))))))))))
(.df (.bin .sub 3) [(.q 2),(.i 1)] .one
(.df (.bin .eql 3) [(.x 37 [1]),(.q 41)] .one
(.br 42 []
(.df (.bin .eql 3) [(.x 37 [5]),(.i 1)] .one
(.br 43 []
(.df (.bin .gtr 3) [(.x 37 [6]),(.i 1)] .one
(.br 44 []
(.df (.bin .sub 3) [(.i 10),(.x 37 [6])] .one
(.df (.bin .eql 3) [(.x 37 [4]),(.i 6)] .one
(.br 46 []
(.df (.bin .geq 3) [(.x 37 [8]),(.i 1)] .one
(.br 47 []
(.df (.bin .leq 3) [(.x 37 [8]),(.i 7)] .one
(.br 48 []
(.df (.bin .sub 3) [(.i 8),(.x 37 [8])] .one
(.df (.app 14 112 (.own 14 (SX.Y 37 0 5++[(.i 2),(.q 45),(.x 37 [7]),(.q 49)]++SX.Y 37 9 5))) [(.cat [(.q 34)]),(.sl 20 0 1 1)] .any
(.df (.bin .add 3) [(.q 33),(.i 1)] .one
(.again 0 [(.q 51),(.cat [(.q 34),(.q 50)])]))))
(.df (.app 14 112 (.own 14 (SX.Y 37 0 5++[(.i 2),(.q 45)]++SX.Y 37 7 7))) [(.cat [(.q 34)]),(.sl 20 0 1 1)] .any
(.df (.bin .add 3) [(.q 33),(.i 1)] .one
(.again 0 [(.q 50),(.cat [(.q 34),(.q 49)])])))))
(.df (.app 14 112 (.own 14 (SX.Y 37 0 5++[(.i 2),(.q 45)]++SX.Y 37 7 7))) [(.cat [(.q 34)]),(.sl 20 0 1 1)] .any
(.df (.bin .add 3) [(.q 33),(.i 1)] .one
(.again 0 [(.q 49),(.cat [(.q 34),(.q 48)])])))))
(.df (.app 14 112 (.own 14 (SX.Y 37 0 5++[(.i 2),(.q 45)]++SX.Y 37 7 7))) [(.cat [(.q 34)]),(.sl 20 0 1 1)] .any
(.df (.bin .add 3) [(.q 33),(.i 1)] .one
(.again 0 [(.q 48),(.cat [(.q 34),(.q 47)])]))))))
(.df (.bin .eql 3) [(.x 37 [4]),(.i 6)] .one
(.br 45 []
(.df (.bin .geq 3) [(.x 37 [8]),(.i 1)] .one
(.br 46 []
(.df (.bin .leq 3) [(.x 37 [8]),(.i 7)] .one
(.br 47 []
(.df (.bin .sub 3) [(.i 8),(.x 37 [8])] .one
(.df (.app 14 112 (.own 14 (SX.Y 37 0 5++[(.i 2),(.x 37 [6]),(.x 37 [7]),(.q 48)]++SX.Y 37 9 5))) [(.cat [(.q 34)]),(.sl 20 0 1 1)] .any
(.df (.bin .add 3) [(.q 33),(.i 1)] .one
(.again 0 [(.q 50),(.cat [(.q 34),(.q 49)])]))))
(.df (.app 14 112 (.own 14 (SX.Y 37 0 5++[(.i 2)]++SX.Y 37 6 8))) [(.cat [(.q 34)]),(.sl 20 0 1 1)] .any
(.df (.bin .add 3) [(.q 33),(.i 1)] .one
(.again 0 [(.q 49),(.cat [(.q 34),(.q 48)])])))))
(.df (.app 14 112 (.own 14 (SX.Y 37 0 5++[(.i 2)]++SX.Y 37 6 8))) [(.cat [(.q 34)]),(.sl 20 0 1 1)] .any
(.df (.bin .add 3) [(.q 33),(.i 1)] .one
(.again 0 [(.q 48),(.cat [(.q 34),(.q 47)])])))))
(.df (.app 14 112 (.own 14 (SX.Y 37 0 5++[(.i 2)]++SX.Y 37 6 8))) [(.cat [(.q 34)]),(.sl 20 0 1 1)] .any
(.df (.bin .add 3) [(.q 33),(.i 1)] .one
(.again 0 [(.q 47),(.cat [(.q 34),(.q 46)])])))))))
(.df (.bin .eql 3) [(.x 37 [5]),(.i 2)] .one
(.br 44 []
(.df (.bin .gtr 3) [(.x 37 [6]),(.i 1)] .one
(.br 45 []
(.df (.bin .sub 3) [(.i 10),(.x 37 [6])] .one
(.df (.bin .eql 3) [(.x 37 [4]),(.i 6)] .one
(.br 47 []
(.df (.bin .geq 3) [(.x 37 [8]),(.i 1)] .one
(.br 48 []
(.df (.bin .leq 3) [(.x 37 [8]),(.i 7)] .one
(.br 49 []
(.df (.bin .sub 3) [(.i 8),(.x 37 [8])] .one
(.df (.app 14 112 (.own 14 (SX.Y 37 0 5++[(.i 1),(.q 46),(.x 37 [7]),(.q 50)]++SX.Y 37 9 5))) [(.cat [(.q 34)]),(.sl 20 0 1 1)] .any
(.df (.bin .add 3) [(.q 33),(.i 1)] .one
(.again 0 [(.q 52),(.cat [(.q 34),(.q 51)])]))))
(.df (.app 14 112 (.own 14 (SX.Y 37 0 5++[(.i 1),(.q 46)]++SX.Y 37 7 7))) [(.cat [(.q 34)]),(.sl 20 0 1 1)] .any
(.df (.bin .add 3) [(.q 33),(.i 1)] .one
(.again 0 [(.q 51),(.cat [(.q 34),(.q 50)])])))))
(.df (.app 14 112 (.own 14 (SX.Y 37 0 5++[(.i 1),(.q 46)]++SX.Y 37 7 7))) [(.cat [(.q 34)]),(.sl 20 0 1 1)] .any
(.df (.bin .add 3) [(.q 33),(.i 1)] .one
(.again 0 [(.q 50),(.cat [(.q 34),(.q 49)])])))))
(.df (.app 14 112 (.own 14 (SX.Y 37 0 5++[(.i 1),(.q 46)]++SX.Y 37 7 7))) [(.cat [(.q 34)]),(.sl 20 0 1 1)] .any
(.df (.bin .add 3) [(.q 33),(.i 1)] .one
(.again 0 [(.q 49),(.cat [(.q 34),(.q 48)])]))))))
(.df (.bin .eql 3) [(.x 37 [4]),(.i 6)] .one
(.br 46 []
(.df (.bin .geq 3) [(.x 37 [8]),(.i 1)] .one
(.br 47 []
(.df (.bin .leq 3) [(.x 37 [8]),(.i 7)] .one
(.br 48 []
(.df (.bin .sub 3) [(.i 8),(.x 37 [8])] .one
(.df (.app 14 112 (.own 14 (SX.Y 37 0 5++[(.i 1),(.x 37 [6]),(.x 37 [7]),(.q 49)]++SX.Y 37 9 5))) [(.cat [(.q 34)]),(.sl 20 0 1 1)] .any
(.df (.bin .add 3) [(.q 33),(.i 1)] .one
(.again 0 [(.q 51),(.cat [(.q 34),(.q 50)])]))))
(.df (.app 14 112 (.own 14 (SX.Y 37 0 5++[(.i 1)]++SX.Y 37 6 8))) [(.cat [(.q 34)]),(.sl 20 0 1 1)] .any
(.df (.bin .add 3) [(.q 33),(.i 1)] .one
(.again 0 [(.q 50),(.cat [(.q 34),(.q 49)])])))))
(.df (.app 14 112 (.own 14 (SX.Y 37 0 5++[(.i 1)]++SX.Y 37 6 8))) [(.cat [(.q 34)]),(.sl 20 0 1 1)] .any
(.df (.bin .add 3) [(.q 33),(.i 1)] .one
(.again 0 [(.q 49),(.cat [(.q 34),(.q 48)])])))))
(.df (.app 14 112 (.own 14 (SX.Y 37 0 5++[(.i 1)]++SX.Y 37 6 8))) [(.cat [(.q 34)]),(.sl 20 0 1 1)] .any
(.df (.bin .add 3) [(.q 33),(.i 1)] .one
(.again 0 [(.q 48),(.cat [(.q 34),(.q 47)])])))))))
(.df (.bin .gtr 3) [(.x 37 [6]),(.i 1)] .one
(.br 45 []
(.df (.bin .sub 3) [(.i 10),(.x 37 [6])] .one
(.df (.bin .eql 3) [(.x 37 [4]),(.i 6)] .one
(.br 47 []
(.df (.bin .geq 3) [(.x 37 [8]),(.i 1)] .one
(.br 48 []
(.df (.bin .leq 3) [(.x 37 [8]),(.i 7)] .one
(.br 49 []
(.df (.bin .sub 3) [(.i 8),(.x 37 [8])] .one
(.df (.app 14 112 (.own 14 (SX.Y 37 0 6++[(.q 46),(.x 37 [7]),(.q 50)]++SX.Y 37 9 5))) [(.cat [(.q 34)]),(.sl 20 0 1 1)] .any
(.df (.bin .add 3) [(.q 33),(.i 1)] .one
(.again 0 [(.q 52),(.cat [(.q 34),(.q 51)])]))))
(.df (.app 14 112 (.own 14 (SX.Y 37 0 6++[(.q 46)]++SX.Y 37 7 7))) [(.cat [(.q 34)]),(.sl 20 0 1 1)] .any
(.df (.bin .add 3) [(.q 33),(.i 1)] .one
(.again 0 [(.q 51),(.cat [(.q 34),(.q 50)])])))))
(.df (.app 14 112 (.own 14 (SX.Y 37 0 6++[(.q 46)]++SX.Y 37 7 7))) [(.cat [(.q 34)]),(.sl 20 0 1 1)] .any
(.df (.bin .add 3) [(.q 33),(.i 1)] .one
(.again 0 [(.q 50),(.cat [(.q 34),(.q 49)])])))))
(.df (.app 14 112 (.own 14 (SX.Y 37 0 6++[(.q 46)]++SX.Y 37 7 7))) [(.cat [(.q 34)]),(.sl 20 0 1 1)] .any
(.df (.bin .add 3) [(.q 33),(.i 1)] .one
(.again 0 [(.q 49),(.cat [(.q 34),(.q 48)])]))))))
(.df (.bin .eql 3) [(.x 37 [4]),(.i 6)] .one
(.br 46 []
(.df (.bin .geq 3) [(.x 37 [8]),(.i 1)] .one
(.br 47 []
(.df (.bin .leq 3) [(.x 37 [8]),(.i 7)] .one
(.br 48 []
(.df (.bin .sub 3) [(.i 8),(.x 37 [8])] .one
(.df (.app 14 112 (.own 14 (SX.Y 37 0 8++[(.q 49)]++SX.Y 37 9 5))) [(.cat [(.q 34)]),(.sl 20 0 1 1)] .any
(.df (.bin .add 3) [(.q 33),(.i 1)] .one
(.again 0 [(.q 51),(.cat [(.q 34),(.q 50)])]))))
(.df (.app 14 112 (.own 14 (SX.Y 37 0 14))) [(.cat [(.q 34)]),(.sl 20 0 1 1)] .any
(.df (.bin .add 3) [(.q 33),(.i 1)] .one
(.again 0 [(.q 50),(.cat [(.q 34),(.q 49)])])))))
(.df (.app 14 112 (.own 14 (SX.Y 37 0 14))) [(.cat [(.q 34)]),(.sl 20 0 1 1)] .any
(.df (.bin .add 3) [(.q 33),(.i 1)] .one
(.again 0 [(.q 49),(.cat [(.q 34),(.q 48)])])))))
(.df (.app 14 112 (.own 14 (SX.Y 37 0 14))) [(.cat [(.q 34)]),(.sl 20 0 1 1)] .any
(.df (.bin .add 3) [(.q 33),(.i 1)] .one
(.again 0 [(.q 48),(.cat [(.q 34),(.q 47)])])))))))))))
(.df (.app 14 112 (.own 14 (SX.Y 37 0 14))) [(.cat [(.q 34)]),(.sl 20 0 1 1)] .any
(.df (.bin .add 3) [(.q 33),(.i 1)] .one
(.again 0 [(.q 44),(.cat [(.q 34),(.q 43)])]))))))))
(.df (.app 14 112 (.own 14 (SX.Y 37 0 14))) [(.cat [(.q 34)]),(.sl 20 0 1 1)] .any
(.df (.bin .add 3) [(.q 33),(.i 1)] .one
(.again 0 [(.q 41),(.cat [(.q 34),(.q 40)])])))))
(.df (.app 14 112 (.own 14 (SX.Y 37 0 14))) [(.cat [(.q 34)]),(.sl 20 0 1 1)] .any
(.df (.bin .add 3) [(.q 33),(.i 1)] .one
(.again 0 [(.q 40),(.cat [(.q 34),(.q 39)])])))))))
(.df (.call 14 [(.row 14 [(.q 34)])]) [(.row 17)] .one
(.df (.bin .neq 31) [(.q 36),(.i 0)] .one
(.br 37 []
(.ret (.t [(.k (.slice none 0 0)),(.q 36)]) (List.replicate 18 none) [])
(.ret (.t [(.row 17),(.i 0)]) (List.replicate 17 none++[(some ⟨[(.q 34)],26,(.row 14)⟩)]) [])))))))))))
(.ret (.t [(.k (.slice none 0 0)),(.i 360)]) (List.replicate 12 none) [])))
(.ret (.t [(.k (.slice none 0 0)),(.i 360)]) (List.replicate 12 none) [])))
(.ret (.t [(.k (.slice none 0 0)),(.i 360)]) (List.replicate 11 none) [])))
(.ret (.t [(.k (.slice none 0 0)),(.i 360)]) (List.replicate 11 none) []))))))))
def args_e1:List SX.V:=[.x 0 [],.a ([.k (.int .i64 1)]++(List.range 21).map fun j=>.x (2+j) [])]
set_option maxRecDepth 100000 in
theorem run_e1(K A:Value→Nat→List Value→Prop):(SX.run (cxE2 K A) ⟨fun _=>true,[⟨12,13,[(.s 51,.one),(.s 4,.row 14 26)]⟩],2,100⟩ 100000 0 (SX.door 12 Try.f12 args_e1 (List.replicate 23 .one)) [.code (Try.f12.body.getD .skip),.top Try.f12]).strip=tree_e1:=by kernel_rfl
set_option maxRecDepth 100000 in
set_option maxHeartbeats 4000000 in
theorem e1_any(ss:List Sg)(A:Option Addr)(n c:Nat)(role other fr to m sn sd:Int)(sg:Sg)(w:World)(hr:Rd w 14 A n (sgsL ss))(hn:n≤9223372036854775807)(hc:n≤c):Calls Try.prog 12 #[.slice A n c,valE (⟨1,role,other,fr,to,m,sn,sd,sg⟩:Ed)] w fun e w'=>Below w.heap.size w w'∧∃ hdr,e=.returned (.tuple #[hdr,.int .i64 (applyE (⟨1,role,other,fr,to,m,sn,sd,sg⟩:Ed) ss).2])∧SX.SlRet w w' [] hdr 14 (sgsL (applyE (⟨1,role,other,fr,to,m,sn,sd,sg⟩:Ed) ss).1):=by
 refine SX.calls_of_run (C:=cxE2 (fun s sz cells=>s=.slice A n c∧sz=14∧cells=sgsL ss) (fun _ _ _=>False)) (G:=⟨fun _=>true,[⟨12,13,[(.s 51,.one),(.s 4,.row 14 26)]⟩],2,100⟩) (args:=args_e1) (sh:=(List.replicate 23 .one)) (ρ:=([.slice A n c]++cellsE (⟨1,role,other,fr,to,m,sn,sd,sg⟩:Ed))) 100000 tree_e1 (okE2 _ _) Try.func12 rfl (run_e1 _ _) (by kernel_rfl) (by kernel_rfl) (by kernel_rfl) ?_ ?_
 ·rintro W hW s sz cells ⟨rfl,rfl,rfl⟩;exact⟨hr.same0 hW,hc⟩
 have hA:=SX.rd_some hr
 have hln:ss.length=n:=by have:=hr.1;rw [sgsL_len]at this;omega
 have k1:(fun s sz cells=>s=.slice A n c∧sz=14∧cells=sgsL ss) (Value.slice A n c) 14 (sgsL ss):=⟨rfl,rfl,rfl⟩
 have hu:usesE (⟨1,role,other,fr,to,m,sn,sd,sg⟩:Ed)=(⟨1,role,0,fr,to,0,0,0,zeroSg⟩:Ed):=by unfold usesE;rw [if_pos rfl]
 have hrt:rightE (⟨1,role,other,fr,to,m,sn,sd,sg⟩:Ed)↔(0≤role∧role≤64∧0≤fr∧fr≤to∧to≤4095):=by unfold rightE;rw [if_pos rfl];try simp only [roleE,barsE]
 have hwk:∀ z:Sg,workE (⟨1,role,other,fr,to,m,sn,sd,sg⟩:Ed) z=(if(fr≤z.bar∧z.bar≤to∧(role=0∨z.role=role-1))then some [mirrorS z]else some [z]):=fun z=>by unfold workE;rw [if_pos rfl]
 unfold tree_e1
 refine SX.E (.int .i64 ((chkS ss))) (fun α=>⟨[⟨.slice A n c,14,sgsL ss⟩],⟨by kernel_rfl,rfl,cast (by kernel_rfl) k1,trivial⟩,.inl ⟨rfl,.slice A n c,ss,rfl,by omega,rfl⟩,SX.noAli rfl⟩) ?_
 refine SX.D (.bool (((chkS ss):Int) != 0)) ?_
 refine SX.B (((chkS ss):Int) != 0) (fun h24=>?_) (fun h24=>?_)
 ·try simp only [NRM]at h24
  have hfact:applyE (⟨1,role,other,fr,to,m,sn,sd,sg⟩:Ed) ss=([],chkS ss):=applyE_chk h24
  exact SX.VC_ret fun α W _ hR hS=>⟨hS.below,(.slice none 0 0),Eq.trans (b:=Ending.returned (.tuple #[(.slice none 0 0),.int .i64 ((chkS ss))])) (by kernel_rfl) (by rw [hfact]),(by rw [hfact];exact SX.SlRet.nil)⟩
 try simp only [NRM]at h24
 refine SX.E (.bool (true ^^ decide ((⟨1,role,0,fr,to,0,0,0,zeroSg⟩:Ed)=(⟨1,role,other,fr,to,m,sn,sd,sg⟩:Ed)))) (fun α=>SX.eqr_rel (f:=cellsE) cellsE_inj (y:=(⟨1,role,0,fr,to,0,0,0,zeroSg⟩:Ed)) (z:=(⟨1,role,other,fr,to,m,sn,sd,sg⟩:Ed)) (by kernel_rfl) (by kernel_rfl) (by kernel_rfl)) ?_
 refine SX.B (true ^^ decide ((⟨1,role,0,fr,to,0,0,0,zeroSg⟩:Ed)=(⟨1,role,other,fr,to,m,sn,sd,sg⟩:Ed))) (fun h25=>?_) (fun h25=>?_)
 ·try simp only [NRM]at h25
  have hfact:applyE (⟨1,role,other,fr,to,m,sn,sd,sg⟩:Ed) ss=([],360):=applyE_no h24 (fun hk=>by first|exact h25 (by rw [← hu];exact hk.2.2.1)|(have:=hrt.1 hk.2.2.2;omega)|(have:=hrt.1 hk.2.2.2;have:=okR_iff2.2 this.2.1;omega))
  exact SX.VC_ret fun α W _ hR hS=>⟨hS.below,(.slice none 0 0),Eq.trans (b:=Ending.returned (.tuple #[(.slice none 0 0),.int .i64 360])) (by kernel_rfl) (by rw [hfact]),(by rw [hfact];exact SX.SlRet.nil)⟩
 try simp only [NRM]at h25
 refine SX.D (.bool (decide (role≥0))) ?_
 refine SX.B (decide (role≥0)) (fun h26=>?_) (fun h26=>?_)
 ·try simp only [NRM]at h26
  refine SX.D (.bool (decide (role≤64))) ?_
  refine SX.B (decide (role≤64)) (fun h27=>?_) (fun h27=>?_)
  ·try simp only [NRM]at h27
   refine SX.D (.bool (decide (fr≥0))) ?_
   refine SX.B (decide (fr≥0)) (fun h28=>?_) (fun h28=>?_)
   ·try simp only [NRM]at h28
    refine SX.D (.bool (decide (fr≤to))) ?_
    refine SX.B (decide (fr≤to)) (fun h29=>?_) (fun h29=>?_)
    ·try simp only [NRM]at h29
     refine SX.D (.bool (decide (to≤4095))) ?_
     refine SX.D (.bool (!(decide (to≤4095)))) ?_
     refine SX.B (!(decide (to≤4095))) (fun h31=>?_) (fun h31=>?_)
     ·try simp only [NRM]at h31
      have hfact:applyE (⟨1,role,other,fr,to,m,sn,sd,sg⟩:Ed) ss=([],360):=applyE_no h24 (fun hk=>by first|exact h25 (by rw [← hu];exact hk.2.2.1)|(have:=hrt.1 hk.2.2.2;omega)|(have:=hrt.1 hk.2.2.2;have:=okR_iff2.2 this.2.1;omega))
      exact SX.VC_ret fun α W _ hR hS=>⟨hS.below,(.slice none 0 0),Eq.trans (b:=Ending.returned (.tuple #[(.slice none 0 0),.int .i64 360])) (by kernel_rfl) (by rw [hfact]),(by rw [hfact];exact SX.SlRet.nil)⟩
     try simp only [NRM]at h31
     refine SX.D (.int .i64 (((n:Nat):Int))) ?_
     have hok:okE (⟨1,role,other,fr,to,m,sn,sd,sg⟩:Ed):=⟨by show(1:Int)≤1;decide,by show(1:Int)≤7;decide,hu.trans h25,hrt.2 (by first|omega|(refine⟨by omega,?_⟩;exact⟨okR_iff2.1 (by assumption),by omega,by omega⟩))⟩
     obtain⟨hss,hs4⟩:=chkS_ok h24
     refine SX.VC_loop (fun xs=>∃ (i:Nat) (cur:List Sg),xs=[.int .i64 (i:Int),.agg (sgsL cur).toArray]∧i≤n∧accE (⟨1,role,other,fr,to,m,sn,sd,sg⟩:Ed) (ss.take i)=some cur) (fun xs=>match xs with|[.int _ i,_]=>n-i.toNat|_=>0) (fun α=>⟨0,[],by kernel_rfl,by omega,rfl⟩) ?_
     rintro xs-⟨i,cur,rfl,hin,hacc⟩
     have hcl:=acc_len hacc
     refine SX.D (.bool (decide (((i:Nat):Int)<((n:Nat):Int)))) ?_
     refine SX.B (decide (((i:Nat):Int)<((n:Nat):Int))) (fun h35=>?_) (fun h35=>?_)
     ·try simp only [NRM]at h35
      obtain⟨z,hz⟩:∃ z,ss[i]?=some z:=⟨_,List.getElem?_eq_getElem (by omega)⟩
      have zb:=hss.1 z (List.mem_of_getElem? hz)
      rw [Sg.ok_iff]at zb
      obtain⟨⟨z1,z2⟩,⟨z3,z4⟩,⟨z5,z6⟩,⟨z7,z8⟩,⟨z9,z10⟩,⟨z11,z12⟩,⟨z13,z14⟩,⟨z15,z16⟩,⟨z17,z18⟩,⟨z19,z20⟩,z21⟩:=zb
      refine SX.E (.bool true) (fun α=>SX.extBnd (A:=A) (n:=n) (c:=c) (j:=i) hA (by kernel_rfl) (by kernel_rfl) (by omega)) ?_
      refine SX.E (.agg (cellsSg z).toArray) (fun α=>SX.extElems (f:=cellsSg) (l:=ss) (A:=A) (n:=n) (c:=c) (j:=i) (z:=z) (fun _=>rfl) hA (by kernel_rfl) (by kernel_rfl) (by omega) (cast (by kernel_rfl) k1) hz) ?_
      refine SX.D (.bool (decide (z.bar≥fr))) ?_
      refine SX.B (decide (z.bar≥fr)) (fun h38=>?_) (fun h38=>?_)
      ·try simp only [NRM]at h38
       refine SX.D (.bool (decide (z.bar≤to))) ?_
       refine SX.B (decide (z.bar≤to)) (fun h39=>?_) (fun h39=>?_)
       ·try simp only [NRM]at h39
        refine SX.D (.bool ((role:Int) == 0)) ?_
        refine SX.B ((role:Int) == 0) (fun h40=>?_) (fun h40=>?_)
        ·try simp only [NRM]at h40
         refine SX.D (.bool ((z.side:Int) == 1)) ?_
         refine SX.B ((z.side:Int) == 1) (fun h41=>?_) (fun h41=>?_)
         ·try simp only [NRM]at h41
          refine SX.D (.bool (decide (z.dir>1))) ?_
          refine SX.B (decide (z.dir>1)) (fun h42=>?_) (fun h42=>?_)
          ·try simp only [NRM]at h42
           refine SX.E (.int .i64 (10-z.dir)) (fun α=>SX.W (10-z.dir)) ?_
           refine SX.D (.bool ((z.kind:Int) == 6)) ?_
           refine SX.B ((z.kind:Int) == 6) (fun h44=>?_) (fun h44=>?_)
           ·try simp only [NRM]at h44
            refine SX.D (.bool (decide (z.size≥1))) ?_
            refine SX.B (decide (z.size≥1)) (fun h45=>?_) (fun h45=>?_)
            ·try simp only [NRM]at h45
             refine SX.D (.bool (decide (z.size≤7))) ?_
             refine SX.B (decide (z.size≤7)) (fun h46=>?_) (fun h46=>?_)
             ·try simp only [NRM]at h46
              refine SX.E (.int .i64 (8-z.size)) (fun α=>SX.W (8-z.size)) ?_
              refine SX.E (Value.agg (([(⟨z.id,z.role,z.bar,z.mark,z.kind,2,10-z.dir,z.level,8-z.size,z.with_,z.fn,z.fd,z.tn,z.td⟩:Sg)]).flatMap cellsSg).toArray) (fun α=>SX.app_rel (f:=cellsSg) (l1:=cur) (l2:=[(⟨z.id,z.role,z.bar,z.mark,z.kind,2,10-z.dir,z.level,8-z.size,z.with_,z.fn,z.fd,z.tn,z.td⟩:Sg)]) (fun _=>rfl) cellsSg_one (by decide) (SX.cat1 (by kernel_rfl)) (SX.src_own (by kernel_rfl)) (by simp only [LL];omega) (by simp only [LL];omega)) ?_
              refine SX.E (.int .i64 (((i+1:Nat):Int))) (fun α=>SX.W1 i) ?_
              exact SX.VC_again fun α=>⟨⟨i+1,cur++[(⟨z.id,z.role,z.bar,z.mark,z.kind,2,10-z.dir,z.level,8-z.size,z.with_,z.fn,z.fd,z.tn,z.td⟩:Sg)],Eq.trans (b:=[.int .i64 ((i+1:Nat):Int),.agg ([Value.agg (sgsL cur).toArray,Value.agg (([(⟨z.id,z.role,z.bar,z.mark,z.kind,2,10-z.dir,z.level,8-z.size,z.with_,z.fn,z.fd,z.tn,z.td⟩:Sg)]).flatMap cellsSg).toArray].flatMap SX.cellsV).toArray]) (by kernel_rfl) (by simp [SX.cellsV,sgsL]),by omega,acc_step hz hacc (by rw [hwk];(try simp only [mirrorS,swapN]);(repeat' split)<;>first|rfl|(exfalso;omega))⟩,cast (by kernel_rfl) (show n-((i+1:Nat):Int).toNat<n-(i:Int).toNat by omega)⟩
             try simp only [NRM]at h46
             refine SX.E (Value.agg (([(⟨z.id,z.role,z.bar,z.mark,z.kind,2,10-z.dir,z.level,z.size,z.with_,z.fn,z.fd,z.tn,z.td⟩:Sg)]).flatMap cellsSg).toArray) (fun α=>SX.app_rel (f:=cellsSg) (l1:=cur) (l2:=[(⟨z.id,z.role,z.bar,z.mark,z.kind,2,10-z.dir,z.level,z.size,z.with_,z.fn,z.fd,z.tn,z.td⟩:Sg)]) (fun _=>rfl) cellsSg_one (by decide) (SX.cat1 (by kernel_rfl)) (SX.src_own (by kernel_rfl)) (by simp only [LL];omega) (by simp only [LL];omega)) ?_
             refine SX.E (.int .i64 (((i+1:Nat):Int))) (fun α=>SX.W1 i) ?_
             exact SX.VC_again fun α=>⟨⟨i+1,cur++[(⟨z.id,z.role,z.bar,z.mark,z.kind,2,10-z.dir,z.level,z.size,z.with_,z.fn,z.fd,z.tn,z.td⟩:Sg)],Eq.trans (b:=[.int .i64 ((i+1:Nat):Int),.agg ([Value.agg (sgsL cur).toArray,Value.agg (([(⟨z.id,z.role,z.bar,z.mark,z.kind,2,10-z.dir,z.level,z.size,z.with_,z.fn,z.fd,z.tn,z.td⟩:Sg)]).flatMap cellsSg).toArray].flatMap SX.cellsV).toArray]) (by kernel_rfl) (by simp [SX.cellsV,sgsL]),by omega,acc_step hz hacc (by rw [hwk];(try simp only [mirrorS,swapN]);(repeat' split)<;>first|rfl|(exfalso;omega))⟩,cast (by kernel_rfl) (show n-((i+1:Nat):Int).toNat<n-(i:Int).toNat by omega)⟩
            try simp only [NRM]at h45
            refine SX.E (Value.agg (([(⟨z.id,z.role,z.bar,z.mark,z.kind,2,10-z.dir,z.level,z.size,z.with_,z.fn,z.fd,z.tn,z.td⟩:Sg)]).flatMap cellsSg).toArray) (fun α=>SX.app_rel (f:=cellsSg) (l1:=cur) (l2:=[(⟨z.id,z.role,z.bar,z.mark,z.kind,2,10-z.dir,z.level,z.size,z.with_,z.fn,z.fd,z.tn,z.td⟩:Sg)]) (fun _=>rfl) cellsSg_one (by decide) (SX.cat1 (by kernel_rfl)) (SX.src_own (by kernel_rfl)) (by simp only [LL];omega) (by simp only [LL];omega)) ?_
            refine SX.E (.int .i64 (((i+1:Nat):Int))) (fun α=>SX.W1 i) ?_
            exact SX.VC_again fun α=>⟨⟨i+1,cur++[(⟨z.id,z.role,z.bar,z.mark,z.kind,2,10-z.dir,z.level,z.size,z.with_,z.fn,z.fd,z.tn,z.td⟩:Sg)],Eq.trans (b:=[.int .i64 ((i+1:Nat):Int),.agg ([Value.agg (sgsL cur).toArray,Value.agg (([(⟨z.id,z.role,z.bar,z.mark,z.kind,2,10-z.dir,z.level,z.size,z.with_,z.fn,z.fd,z.tn,z.td⟩:Sg)]).flatMap cellsSg).toArray].flatMap SX.cellsV).toArray]) (by kernel_rfl) (by simp [SX.cellsV,sgsL]),by omega,acc_step hz hacc (by rw [hwk];(try simp only [mirrorS,swapN]);(repeat' split)<;>first|rfl|(exfalso;omega))⟩,cast (by kernel_rfl) (show n-((i+1:Nat):Int).toNat<n-(i:Int).toNat by omega)⟩
           try simp only [NRM]at h44
           refine SX.E (Value.agg (([(⟨z.id,z.role,z.bar,z.mark,z.kind,2,10-z.dir,z.level,z.size,z.with_,z.fn,z.fd,z.tn,z.td⟩:Sg)]).flatMap cellsSg).toArray) (fun α=>SX.app_rel (f:=cellsSg) (l1:=cur) (l2:=[(⟨z.id,z.role,z.bar,z.mark,z.kind,2,10-z.dir,z.level,z.size,z.with_,z.fn,z.fd,z.tn,z.td⟩:Sg)]) (fun _=>rfl) cellsSg_one (by decide) (SX.cat1 (by kernel_rfl)) (SX.src_own (by kernel_rfl)) (by simp only [LL];omega) (by simp only [LL];omega)) ?_
           refine SX.E (.int .i64 (((i+1:Nat):Int))) (fun α=>SX.W1 i) ?_
           exact SX.VC_again fun α=>⟨⟨i+1,cur++[(⟨z.id,z.role,z.bar,z.mark,z.kind,2,10-z.dir,z.level,z.size,z.with_,z.fn,z.fd,z.tn,z.td⟩:Sg)],Eq.trans (b:=[.int .i64 ((i+1:Nat):Int),.agg ([Value.agg (sgsL cur).toArray,Value.agg (([(⟨z.id,z.role,z.bar,z.mark,z.kind,2,10-z.dir,z.level,z.size,z.with_,z.fn,z.fd,z.tn,z.td⟩:Sg)]).flatMap cellsSg).toArray].flatMap SX.cellsV).toArray]) (by kernel_rfl) (by simp [SX.cellsV,sgsL]),by omega,acc_step hz hacc (by rw [hwk];(try simp only [mirrorS,swapN]);(repeat' split)<;>first|rfl|(exfalso;omega))⟩,cast (by kernel_rfl) (show n-((i+1:Nat):Int).toNat<n-(i:Int).toNat by omega)⟩
          try simp only [NRM]at h42
          refine SX.D (.bool ((z.kind:Int) == 6)) ?_
          refine SX.B ((z.kind:Int) == 6) (fun h43=>?_) (fun h43=>?_)
          ·try simp only [NRM]at h43
           refine SX.D (.bool (decide (z.size≥1))) ?_
           refine SX.B (decide (z.size≥1)) (fun h44=>?_) (fun h44=>?_)
           ·try simp only [NRM]at h44
            refine SX.D (.bool (decide (z.size≤7))) ?_
            refine SX.B (decide (z.size≤7)) (fun h45=>?_) (fun h45=>?_)
            ·try simp only [NRM]at h45
             refine SX.E (.int .i64 (8-z.size)) (fun α=>SX.W (8-z.size)) ?_
             refine SX.E (Value.agg (([(⟨z.id,z.role,z.bar,z.mark,z.kind,2,z.dir,z.level,8-z.size,z.with_,z.fn,z.fd,z.tn,z.td⟩:Sg)]).flatMap cellsSg).toArray) (fun α=>SX.app_rel (f:=cellsSg) (l1:=cur) (l2:=[(⟨z.id,z.role,z.bar,z.mark,z.kind,2,z.dir,z.level,8-z.size,z.with_,z.fn,z.fd,z.tn,z.td⟩:Sg)]) (fun _=>rfl) cellsSg_one (by decide) (SX.cat1 (by kernel_rfl)) (SX.src_own (by kernel_rfl)) (by simp only [LL];omega) (by simp only [LL];omega)) ?_
             refine SX.E (.int .i64 (((i+1:Nat):Int))) (fun α=>SX.W1 i) ?_
             exact SX.VC_again fun α=>⟨⟨i+1,cur++[(⟨z.id,z.role,z.bar,z.mark,z.kind,2,z.dir,z.level,8-z.size,z.with_,z.fn,z.fd,z.tn,z.td⟩:Sg)],Eq.trans (b:=[.int .i64 ((i+1:Nat):Int),.agg ([Value.agg (sgsL cur).toArray,Value.agg (([(⟨z.id,z.role,z.bar,z.mark,z.kind,2,z.dir,z.level,8-z.size,z.with_,z.fn,z.fd,z.tn,z.td⟩:Sg)]).flatMap cellsSg).toArray].flatMap SX.cellsV).toArray]) (by kernel_rfl) (by simp [SX.cellsV,sgsL]),by omega,acc_step hz hacc (by rw [hwk];(try simp only [mirrorS,swapN]);(repeat' split)<;>first|rfl|(exfalso;omega))⟩,cast (by kernel_rfl) (show n-((i+1:Nat):Int).toNat<n-(i:Int).toNat by omega)⟩
            try simp only [NRM]at h45
            refine SX.E (Value.agg (([(⟨z.id,z.role,z.bar,z.mark,z.kind,2,z.dir,z.level,z.size,z.with_,z.fn,z.fd,z.tn,z.td⟩:Sg)]).flatMap cellsSg).toArray) (fun α=>SX.app_rel (f:=cellsSg) (l1:=cur) (l2:=[(⟨z.id,z.role,z.bar,z.mark,z.kind,2,z.dir,z.level,z.size,z.with_,z.fn,z.fd,z.tn,z.td⟩:Sg)]) (fun _=>rfl) cellsSg_one (by decide) (SX.cat1 (by kernel_rfl)) (SX.src_own (by kernel_rfl)) (by simp only [LL];omega) (by simp only [LL];omega)) ?_
            refine SX.E (.int .i64 (((i+1:Nat):Int))) (fun α=>SX.W1 i) ?_
            exact SX.VC_again fun α=>⟨⟨i+1,cur++[(⟨z.id,z.role,z.bar,z.mark,z.kind,2,z.dir,z.level,z.size,z.with_,z.fn,z.fd,z.tn,z.td⟩:Sg)],Eq.trans (b:=[.int .i64 ((i+1:Nat):Int),.agg ([Value.agg (sgsL cur).toArray,Value.agg (([(⟨z.id,z.role,z.bar,z.mark,z.kind,2,z.dir,z.level,z.size,z.with_,z.fn,z.fd,z.tn,z.td⟩:Sg)]).flatMap cellsSg).toArray].flatMap SX.cellsV).toArray]) (by kernel_rfl) (by simp [SX.cellsV,sgsL]),by omega,acc_step hz hacc (by rw [hwk];(try simp only [mirrorS,swapN]);(repeat' split)<;>first|rfl|(exfalso;omega))⟩,cast (by kernel_rfl) (show n-((i+1:Nat):Int).toNat<n-(i:Int).toNat by omega)⟩
           try simp only [NRM]at h44
           refine SX.E (Value.agg (([(⟨z.id,z.role,z.bar,z.mark,z.kind,2,z.dir,z.level,z.size,z.with_,z.fn,z.fd,z.tn,z.td⟩:Sg)]).flatMap cellsSg).toArray) (fun α=>SX.app_rel (f:=cellsSg) (l1:=cur) (l2:=[(⟨z.id,z.role,z.bar,z.mark,z.kind,2,z.dir,z.level,z.size,z.with_,z.fn,z.fd,z.tn,z.td⟩:Sg)]) (fun _=>rfl) cellsSg_one (by decide) (SX.cat1 (by kernel_rfl)) (SX.src_own (by kernel_rfl)) (by simp only [LL];omega) (by simp only [LL];omega)) ?_
           refine SX.E (.int .i64 (((i+1:Nat):Int))) (fun α=>SX.W1 i) ?_
           exact SX.VC_again fun α=>⟨⟨i+1,cur++[(⟨z.id,z.role,z.bar,z.mark,z.kind,2,z.dir,z.level,z.size,z.with_,z.fn,z.fd,z.tn,z.td⟩:Sg)],Eq.trans (b:=[.int .i64 ((i+1:Nat):Int),.agg ([Value.agg (sgsL cur).toArray,Value.agg (([(⟨z.id,z.role,z.bar,z.mark,z.kind,2,z.dir,z.level,z.size,z.with_,z.fn,z.fd,z.tn,z.td⟩:Sg)]).flatMap cellsSg).toArray].flatMap SX.cellsV).toArray]) (by kernel_rfl) (by simp [SX.cellsV,sgsL]),by omega,acc_step hz hacc (by rw [hwk];(try simp only [mirrorS,swapN]);(repeat' split)<;>first|rfl|(exfalso;omega))⟩,cast (by kernel_rfl) (show n-((i+1:Nat):Int).toNat<n-(i:Int).toNat by omega)⟩
          try simp only [NRM]at h43
          refine SX.E (Value.agg (([(⟨z.id,z.role,z.bar,z.mark,z.kind,2,z.dir,z.level,z.size,z.with_,z.fn,z.fd,z.tn,z.td⟩:Sg)]).flatMap cellsSg).toArray) (fun α=>SX.app_rel (f:=cellsSg) (l1:=cur) (l2:=[(⟨z.id,z.role,z.bar,z.mark,z.kind,2,z.dir,z.level,z.size,z.with_,z.fn,z.fd,z.tn,z.td⟩:Sg)]) (fun _=>rfl) cellsSg_one (by decide) (SX.cat1 (by kernel_rfl)) (SX.src_own (by kernel_rfl)) (by simp only [LL];omega) (by simp only [LL];omega)) ?_
          refine SX.E (.int .i64 (((i+1:Nat):Int))) (fun α=>SX.W1 i) ?_
          exact SX.VC_again fun α=>⟨⟨i+1,cur++[(⟨z.id,z.role,z.bar,z.mark,z.kind,2,z.dir,z.level,z.size,z.with_,z.fn,z.fd,z.tn,z.td⟩:Sg)],Eq.trans (b:=[.int .i64 ((i+1:Nat):Int),.agg ([Value.agg (sgsL cur).toArray,Value.agg (([(⟨z.id,z.role,z.bar,z.mark,z.kind,2,z.dir,z.level,z.size,z.with_,z.fn,z.fd,z.tn,z.td⟩:Sg)]).flatMap cellsSg).toArray].flatMap SX.cellsV).toArray]) (by kernel_rfl) (by simp [SX.cellsV,sgsL]),by omega,acc_step hz hacc (by rw [hwk];(try simp only [mirrorS,swapN]);(repeat' split)<;>first|rfl|(exfalso;omega))⟩,cast (by kernel_rfl) (show n-((i+1:Nat):Int).toNat<n-(i:Int).toNat by omega)⟩
         try simp only [NRM]at h41
         refine SX.D (.bool ((z.side:Int) == 2)) ?_
         refine SX.B ((z.side:Int) == 2) (fun h42=>?_) (fun h42=>?_)
         ·try simp only [NRM]at h42
          refine SX.D (.bool (decide (z.dir>1))) ?_
          refine SX.B (decide (z.dir>1)) (fun h43=>?_) (fun h43=>?_)
          ·try simp only [NRM]at h43
           refine SX.E (.int .i64 (10-z.dir)) (fun α=>SX.W (10-z.dir)) ?_
           refine SX.D (.bool ((z.kind:Int) == 6)) ?_
           refine SX.B ((z.kind:Int) == 6) (fun h45=>?_) (fun h45=>?_)
           ·try simp only [NRM]at h45
            refine SX.D (.bool (decide (z.size≥1))) ?_
            refine SX.B (decide (z.size≥1)) (fun h46=>?_) (fun h46=>?_)
            ·try simp only [NRM]at h46
             refine SX.D (.bool (decide (z.size≤7))) ?_
             refine SX.B (decide (z.size≤7)) (fun h47=>?_) (fun h47=>?_)
             ·try simp only [NRM]at h47
              refine SX.E (.int .i64 (8-z.size)) (fun α=>SX.W (8-z.size)) ?_
              refine SX.E (Value.agg (([(⟨z.id,z.role,z.bar,z.mark,z.kind,1,10-z.dir,z.level,8-z.size,z.with_,z.fn,z.fd,z.tn,z.td⟩:Sg)]).flatMap cellsSg).toArray) (fun α=>SX.app_rel (f:=cellsSg) (l1:=cur) (l2:=[(⟨z.id,z.role,z.bar,z.mark,z.kind,1,10-z.dir,z.level,8-z.size,z.with_,z.fn,z.fd,z.tn,z.td⟩:Sg)]) (fun _=>rfl) cellsSg_one (by decide) (SX.cat1 (by kernel_rfl)) (SX.src_own (by kernel_rfl)) (by simp only [LL];omega) (by simp only [LL];omega)) ?_
              refine SX.E (.int .i64 (((i+1:Nat):Int))) (fun α=>SX.W1 i) ?_
              exact SX.VC_again fun α=>⟨⟨i+1,cur++[(⟨z.id,z.role,z.bar,z.mark,z.kind,1,10-z.dir,z.level,8-z.size,z.with_,z.fn,z.fd,z.tn,z.td⟩:Sg)],Eq.trans (b:=[.int .i64 ((i+1:Nat):Int),.agg ([Value.agg (sgsL cur).toArray,Value.agg (([(⟨z.id,z.role,z.bar,z.mark,z.kind,1,10-z.dir,z.level,8-z.size,z.with_,z.fn,z.fd,z.tn,z.td⟩:Sg)]).flatMap cellsSg).toArray].flatMap SX.cellsV).toArray]) (by kernel_rfl) (by simp [SX.cellsV,sgsL]),by omega,acc_step hz hacc (by rw [hwk];(try simp only [mirrorS,swapN]);(repeat' split)<;>first|rfl|(exfalso;omega))⟩,cast (by kernel_rfl) (show n-((i+1:Nat):Int).toNat<n-(i:Int).toNat by omega)⟩
             try simp only [NRM]at h47
             refine SX.E (Value.agg (([(⟨z.id,z.role,z.bar,z.mark,z.kind,1,10-z.dir,z.level,z.size,z.with_,z.fn,z.fd,z.tn,z.td⟩:Sg)]).flatMap cellsSg).toArray) (fun α=>SX.app_rel (f:=cellsSg) (l1:=cur) (l2:=[(⟨z.id,z.role,z.bar,z.mark,z.kind,1,10-z.dir,z.level,z.size,z.with_,z.fn,z.fd,z.tn,z.td⟩:Sg)]) (fun _=>rfl) cellsSg_one (by decide) (SX.cat1 (by kernel_rfl)) (SX.src_own (by kernel_rfl)) (by simp only [LL];omega) (by simp only [LL];omega)) ?_
             refine SX.E (.int .i64 (((i+1:Nat):Int))) (fun α=>SX.W1 i) ?_
             exact SX.VC_again fun α=>⟨⟨i+1,cur++[(⟨z.id,z.role,z.bar,z.mark,z.kind,1,10-z.dir,z.level,z.size,z.with_,z.fn,z.fd,z.tn,z.td⟩:Sg)],Eq.trans (b:=[.int .i64 ((i+1:Nat):Int),.agg ([Value.agg (sgsL cur).toArray,Value.agg (([(⟨z.id,z.role,z.bar,z.mark,z.kind,1,10-z.dir,z.level,z.size,z.with_,z.fn,z.fd,z.tn,z.td⟩:Sg)]).flatMap cellsSg).toArray].flatMap SX.cellsV).toArray]) (by kernel_rfl) (by simp [SX.cellsV,sgsL]),by omega,acc_step hz hacc (by rw [hwk];(try simp only [mirrorS,swapN]);(repeat' split)<;>first|rfl|(exfalso;omega))⟩,cast (by kernel_rfl) (show n-((i+1:Nat):Int).toNat<n-(i:Int).toNat by omega)⟩
            try simp only [NRM]at h46
            refine SX.E (Value.agg (([(⟨z.id,z.role,z.bar,z.mark,z.kind,1,10-z.dir,z.level,z.size,z.with_,z.fn,z.fd,z.tn,z.td⟩:Sg)]).flatMap cellsSg).toArray) (fun α=>SX.app_rel (f:=cellsSg) (l1:=cur) (l2:=[(⟨z.id,z.role,z.bar,z.mark,z.kind,1,10-z.dir,z.level,z.size,z.with_,z.fn,z.fd,z.tn,z.td⟩:Sg)]) (fun _=>rfl) cellsSg_one (by decide) (SX.cat1 (by kernel_rfl)) (SX.src_own (by kernel_rfl)) (by simp only [LL];omega) (by simp only [LL];omega)) ?_
            refine SX.E (.int .i64 (((i+1:Nat):Int))) (fun α=>SX.W1 i) ?_
            exact SX.VC_again fun α=>⟨⟨i+1,cur++[(⟨z.id,z.role,z.bar,z.mark,z.kind,1,10-z.dir,z.level,z.size,z.with_,z.fn,z.fd,z.tn,z.td⟩:Sg)],Eq.trans (b:=[.int .i64 ((i+1:Nat):Int),.agg ([Value.agg (sgsL cur).toArray,Value.agg (([(⟨z.id,z.role,z.bar,z.mark,z.kind,1,10-z.dir,z.level,z.size,z.with_,z.fn,z.fd,z.tn,z.td⟩:Sg)]).flatMap cellsSg).toArray].flatMap SX.cellsV).toArray]) (by kernel_rfl) (by simp [SX.cellsV,sgsL]),by omega,acc_step hz hacc (by rw [hwk];(try simp only [mirrorS,swapN]);(repeat' split)<;>first|rfl|(exfalso;omega))⟩,cast (by kernel_rfl) (show n-((i+1:Nat):Int).toNat<n-(i:Int).toNat by omega)⟩
           try simp only [NRM]at h45
           refine SX.E (Value.agg (([(⟨z.id,z.role,z.bar,z.mark,z.kind,1,10-z.dir,z.level,z.size,z.with_,z.fn,z.fd,z.tn,z.td⟩:Sg)]).flatMap cellsSg).toArray) (fun α=>SX.app_rel (f:=cellsSg) (l1:=cur) (l2:=[(⟨z.id,z.role,z.bar,z.mark,z.kind,1,10-z.dir,z.level,z.size,z.with_,z.fn,z.fd,z.tn,z.td⟩:Sg)]) (fun _=>rfl) cellsSg_one (by decide) (SX.cat1 (by kernel_rfl)) (SX.src_own (by kernel_rfl)) (by simp only [LL];omega) (by simp only [LL];omega)) ?_
           refine SX.E (.int .i64 (((i+1:Nat):Int))) (fun α=>SX.W1 i) ?_
           exact SX.VC_again fun α=>⟨⟨i+1,cur++[(⟨z.id,z.role,z.bar,z.mark,z.kind,1,10-z.dir,z.level,z.size,z.with_,z.fn,z.fd,z.tn,z.td⟩:Sg)],Eq.trans (b:=[.int .i64 ((i+1:Nat):Int),.agg ([Value.agg (sgsL cur).toArray,Value.agg (([(⟨z.id,z.role,z.bar,z.mark,z.kind,1,10-z.dir,z.level,z.size,z.with_,z.fn,z.fd,z.tn,z.td⟩:Sg)]).flatMap cellsSg).toArray].flatMap SX.cellsV).toArray]) (by kernel_rfl) (by simp [SX.cellsV,sgsL]),by omega,acc_step hz hacc (by rw [hwk];(try simp only [mirrorS,swapN]);(repeat' split)<;>first|rfl|(exfalso;omega))⟩,cast (by kernel_rfl) (show n-((i+1:Nat):Int).toNat<n-(i:Int).toNat by omega)⟩
          try simp only [NRM]at h43
          refine SX.D (.bool ((z.kind:Int) == 6)) ?_
          refine SX.B ((z.kind:Int) == 6) (fun h44=>?_) (fun h44=>?_)
          ·try simp only [NRM]at h44
           refine SX.D (.bool (decide (z.size≥1))) ?_
           refine SX.B (decide (z.size≥1)) (fun h45=>?_) (fun h45=>?_)
           ·try simp only [NRM]at h45
            refine SX.D (.bool (decide (z.size≤7))) ?_
            refine SX.B (decide (z.size≤7)) (fun h46=>?_) (fun h46=>?_)
            ·try simp only [NRM]at h46
             refine SX.E (.int .i64 (8-z.size)) (fun α=>SX.W (8-z.size)) ?_
             refine SX.E (Value.agg (([(⟨z.id,z.role,z.bar,z.mark,z.kind,1,z.dir,z.level,8-z.size,z.with_,z.fn,z.fd,z.tn,z.td⟩:Sg)]).flatMap cellsSg).toArray) (fun α=>SX.app_rel (f:=cellsSg) (l1:=cur) (l2:=[(⟨z.id,z.role,z.bar,z.mark,z.kind,1,z.dir,z.level,8-z.size,z.with_,z.fn,z.fd,z.tn,z.td⟩:Sg)]) (fun _=>rfl) cellsSg_one (by decide) (SX.cat1 (by kernel_rfl)) (SX.src_own (by kernel_rfl)) (by simp only [LL];omega) (by simp only [LL];omega)) ?_
             refine SX.E (.int .i64 (((i+1:Nat):Int))) (fun α=>SX.W1 i) ?_
             exact SX.VC_again fun α=>⟨⟨i+1,cur++[(⟨z.id,z.role,z.bar,z.mark,z.kind,1,z.dir,z.level,8-z.size,z.with_,z.fn,z.fd,z.tn,z.td⟩:Sg)],Eq.trans (b:=[.int .i64 ((i+1:Nat):Int),.agg ([Value.agg (sgsL cur).toArray,Value.agg (([(⟨z.id,z.role,z.bar,z.mark,z.kind,1,z.dir,z.level,8-z.size,z.with_,z.fn,z.fd,z.tn,z.td⟩:Sg)]).flatMap cellsSg).toArray].flatMap SX.cellsV).toArray]) (by kernel_rfl) (by simp [SX.cellsV,sgsL]),by omega,acc_step hz hacc (by rw [hwk];(try simp only [mirrorS,swapN]);(repeat' split)<;>first|rfl|(exfalso;omega))⟩,cast (by kernel_rfl) (show n-((i+1:Nat):Int).toNat<n-(i:Int).toNat by omega)⟩
            try simp only [NRM]at h46
            refine SX.E (Value.agg (([(⟨z.id,z.role,z.bar,z.mark,z.kind,1,z.dir,z.level,z.size,z.with_,z.fn,z.fd,z.tn,z.td⟩:Sg)]).flatMap cellsSg).toArray) (fun α=>SX.app_rel (f:=cellsSg) (l1:=cur) (l2:=[(⟨z.id,z.role,z.bar,z.mark,z.kind,1,z.dir,z.level,z.size,z.with_,z.fn,z.fd,z.tn,z.td⟩:Sg)]) (fun _=>rfl) cellsSg_one (by decide) (SX.cat1 (by kernel_rfl)) (SX.src_own (by kernel_rfl)) (by simp only [LL];omega) (by simp only [LL];omega)) ?_
            refine SX.E (.int .i64 (((i+1:Nat):Int))) (fun α=>SX.W1 i) ?_
            exact SX.VC_again fun α=>⟨⟨i+1,cur++[(⟨z.id,z.role,z.bar,z.mark,z.kind,1,z.dir,z.level,z.size,z.with_,z.fn,z.fd,z.tn,z.td⟩:Sg)],Eq.trans (b:=[.int .i64 ((i+1:Nat):Int),.agg ([Value.agg (sgsL cur).toArray,Value.agg (([(⟨z.id,z.role,z.bar,z.mark,z.kind,1,z.dir,z.level,z.size,z.with_,z.fn,z.fd,z.tn,z.td⟩:Sg)]).flatMap cellsSg).toArray].flatMap SX.cellsV).toArray]) (by kernel_rfl) (by simp [SX.cellsV,sgsL]),by omega,acc_step hz hacc (by rw [hwk];(try simp only [mirrorS,swapN]);(repeat' split)<;>first|rfl|(exfalso;omega))⟩,cast (by kernel_rfl) (show n-((i+1:Nat):Int).toNat<n-(i:Int).toNat by omega)⟩
           try simp only [NRM]at h45
           refine SX.E (Value.agg (([(⟨z.id,z.role,z.bar,z.mark,z.kind,1,z.dir,z.level,z.size,z.with_,z.fn,z.fd,z.tn,z.td⟩:Sg)]).flatMap cellsSg).toArray) (fun α=>SX.app_rel (f:=cellsSg) (l1:=cur) (l2:=[(⟨z.id,z.role,z.bar,z.mark,z.kind,1,z.dir,z.level,z.size,z.with_,z.fn,z.fd,z.tn,z.td⟩:Sg)]) (fun _=>rfl) cellsSg_one (by decide) (SX.cat1 (by kernel_rfl)) (SX.src_own (by kernel_rfl)) (by simp only [LL];omega) (by simp only [LL];omega)) ?_
           refine SX.E (.int .i64 (((i+1:Nat):Int))) (fun α=>SX.W1 i) ?_
           exact SX.VC_again fun α=>⟨⟨i+1,cur++[(⟨z.id,z.role,z.bar,z.mark,z.kind,1,z.dir,z.level,z.size,z.with_,z.fn,z.fd,z.tn,z.td⟩:Sg)],Eq.trans (b:=[.int .i64 ((i+1:Nat):Int),.agg ([Value.agg (sgsL cur).toArray,Value.agg (([(⟨z.id,z.role,z.bar,z.mark,z.kind,1,z.dir,z.level,z.size,z.with_,z.fn,z.fd,z.tn,z.td⟩:Sg)]).flatMap cellsSg).toArray].flatMap SX.cellsV).toArray]) (by kernel_rfl) (by simp [SX.cellsV,sgsL]),by omega,acc_step hz hacc (by rw [hwk];(try simp only [mirrorS,swapN]);(repeat' split)<;>first|rfl|(exfalso;omega))⟩,cast (by kernel_rfl) (show n-((i+1:Nat):Int).toNat<n-(i:Int).toNat by omega)⟩
          try simp only [NRM]at h44
          refine SX.E (Value.agg (([(⟨z.id,z.role,z.bar,z.mark,z.kind,1,z.dir,z.level,z.size,z.with_,z.fn,z.fd,z.tn,z.td⟩:Sg)]).flatMap cellsSg).toArray) (fun α=>SX.app_rel (f:=cellsSg) (l1:=cur) (l2:=[(⟨z.id,z.role,z.bar,z.mark,z.kind,1,z.dir,z.level,z.size,z.with_,z.fn,z.fd,z.tn,z.td⟩:Sg)]) (fun _=>rfl) cellsSg_one (by decide) (SX.cat1 (by kernel_rfl)) (SX.src_own (by kernel_rfl)) (by simp only [LL];omega) (by simp only [LL];omega)) ?_
          refine SX.E (.int .i64 (((i+1:Nat):Int))) (fun α=>SX.W1 i) ?_
          exact SX.VC_again fun α=>⟨⟨i+1,cur++[(⟨z.id,z.role,z.bar,z.mark,z.kind,1,z.dir,z.level,z.size,z.with_,z.fn,z.fd,z.tn,z.td⟩:Sg)],Eq.trans (b:=[.int .i64 ((i+1:Nat):Int),.agg ([Value.agg (sgsL cur).toArray,Value.agg (([(⟨z.id,z.role,z.bar,z.mark,z.kind,1,z.dir,z.level,z.size,z.with_,z.fn,z.fd,z.tn,z.td⟩:Sg)]).flatMap cellsSg).toArray].flatMap SX.cellsV).toArray]) (by kernel_rfl) (by simp [SX.cellsV,sgsL]),by omega,acc_step hz hacc (by rw [hwk];(try simp only [mirrorS,swapN]);(repeat' split)<;>first|rfl|(exfalso;omega))⟩,cast (by kernel_rfl) (show n-((i+1:Nat):Int).toNat<n-(i:Int).toNat by omega)⟩
         try simp only [NRM]at h42
         refine SX.D (.bool (decide (z.dir>1))) ?_
         refine SX.B (decide (z.dir>1)) (fun h43=>?_) (fun h43=>?_)
         ·try simp only [NRM]at h43
          refine SX.E (.int .i64 (10-z.dir)) (fun α=>SX.W (10-z.dir)) ?_
          refine SX.D (.bool ((z.kind:Int) == 6)) ?_
          refine SX.B ((z.kind:Int) == 6) (fun h45=>?_) (fun h45=>?_)
          ·try simp only [NRM]at h45
           refine SX.D (.bool (decide (z.size≥1))) ?_
           refine SX.B (decide (z.size≥1)) (fun h46=>?_) (fun h46=>?_)
           ·try simp only [NRM]at h46
            refine SX.D (.bool (decide (z.size≤7))) ?_
            refine SX.B (decide (z.size≤7)) (fun h47=>?_) (fun h47=>?_)
            ·try simp only [NRM]at h47
             refine SX.E (.int .i64 (8-z.size)) (fun α=>SX.W (8-z.size)) ?_
             refine SX.E (Value.agg (([(⟨z.id,z.role,z.bar,z.mark,z.kind,z.side,10-z.dir,z.level,8-z.size,z.with_,z.fn,z.fd,z.tn,z.td⟩:Sg)]).flatMap cellsSg).toArray) (fun α=>SX.app_rel (f:=cellsSg) (l1:=cur) (l2:=[(⟨z.id,z.role,z.bar,z.mark,z.kind,z.side,10-z.dir,z.level,8-z.size,z.with_,z.fn,z.fd,z.tn,z.td⟩:Sg)]) (fun _=>rfl) cellsSg_one (by decide) (SX.cat1 (by kernel_rfl)) (SX.src_own (by kernel_rfl)) (by simp only [LL];omega) (by simp only [LL];omega)) ?_
             refine SX.E (.int .i64 (((i+1:Nat):Int))) (fun α=>SX.W1 i) ?_
             exact SX.VC_again fun α=>⟨⟨i+1,cur++[(⟨z.id,z.role,z.bar,z.mark,z.kind,z.side,10-z.dir,z.level,8-z.size,z.with_,z.fn,z.fd,z.tn,z.td⟩:Sg)],Eq.trans (b:=[.int .i64 ((i+1:Nat):Int),.agg ([Value.agg (sgsL cur).toArray,Value.agg (([(⟨z.id,z.role,z.bar,z.mark,z.kind,z.side,10-z.dir,z.level,8-z.size,z.with_,z.fn,z.fd,z.tn,z.td⟩:Sg)]).flatMap cellsSg).toArray].flatMap SX.cellsV).toArray]) (by kernel_rfl) (by simp [SX.cellsV,sgsL]),by omega,acc_step hz hacc (by rw [hwk];(try simp only [mirrorS,swapN]);(repeat' split)<;>first|rfl|(exfalso;omega))⟩,cast (by kernel_rfl) (show n-((i+1:Nat):Int).toNat<n-(i:Int).toNat by omega)⟩
            try simp only [NRM]at h47
            refine SX.E (Value.agg (([(⟨z.id,z.role,z.bar,z.mark,z.kind,z.side,10-z.dir,z.level,z.size,z.with_,z.fn,z.fd,z.tn,z.td⟩:Sg)]).flatMap cellsSg).toArray) (fun α=>SX.app_rel (f:=cellsSg) (l1:=cur) (l2:=[(⟨z.id,z.role,z.bar,z.mark,z.kind,z.side,10-z.dir,z.level,z.size,z.with_,z.fn,z.fd,z.tn,z.td⟩:Sg)]) (fun _=>rfl) cellsSg_one (by decide) (SX.cat1 (by kernel_rfl)) (SX.src_own (by kernel_rfl)) (by simp only [LL];omega) (by simp only [LL];omega)) ?_
            refine SX.E (.int .i64 (((i+1:Nat):Int))) (fun α=>SX.W1 i) ?_
            exact SX.VC_again fun α=>⟨⟨i+1,cur++[(⟨z.id,z.role,z.bar,z.mark,z.kind,z.side,10-z.dir,z.level,z.size,z.with_,z.fn,z.fd,z.tn,z.td⟩:Sg)],Eq.trans (b:=[.int .i64 ((i+1:Nat):Int),.agg ([Value.agg (sgsL cur).toArray,Value.agg (([(⟨z.id,z.role,z.bar,z.mark,z.kind,z.side,10-z.dir,z.level,z.size,z.with_,z.fn,z.fd,z.tn,z.td⟩:Sg)]).flatMap cellsSg).toArray].flatMap SX.cellsV).toArray]) (by kernel_rfl) (by simp [SX.cellsV,sgsL]),by omega,acc_step hz hacc (by rw [hwk];(try simp only [mirrorS,swapN]);(repeat' split)<;>first|rfl|(exfalso;omega))⟩,cast (by kernel_rfl) (show n-((i+1:Nat):Int).toNat<n-(i:Int).toNat by omega)⟩
           try simp only [NRM]at h46
           refine SX.E (Value.agg (([(⟨z.id,z.role,z.bar,z.mark,z.kind,z.side,10-z.dir,z.level,z.size,z.with_,z.fn,z.fd,z.tn,z.td⟩:Sg)]).flatMap cellsSg).toArray) (fun α=>SX.app_rel (f:=cellsSg) (l1:=cur) (l2:=[(⟨z.id,z.role,z.bar,z.mark,z.kind,z.side,10-z.dir,z.level,z.size,z.with_,z.fn,z.fd,z.tn,z.td⟩:Sg)]) (fun _=>rfl) cellsSg_one (by decide) (SX.cat1 (by kernel_rfl)) (SX.src_own (by kernel_rfl)) (by simp only [LL];omega) (by simp only [LL];omega)) ?_
           refine SX.E (.int .i64 (((i+1:Nat):Int))) (fun α=>SX.W1 i) ?_
           exact SX.VC_again fun α=>⟨⟨i+1,cur++[(⟨z.id,z.role,z.bar,z.mark,z.kind,z.side,10-z.dir,z.level,z.size,z.with_,z.fn,z.fd,z.tn,z.td⟩:Sg)],Eq.trans (b:=[.int .i64 ((i+1:Nat):Int),.agg ([Value.agg (sgsL cur).toArray,Value.agg (([(⟨z.id,z.role,z.bar,z.mark,z.kind,z.side,10-z.dir,z.level,z.size,z.with_,z.fn,z.fd,z.tn,z.td⟩:Sg)]).flatMap cellsSg).toArray].flatMap SX.cellsV).toArray]) (by kernel_rfl) (by simp [SX.cellsV,sgsL]),by omega,acc_step hz hacc (by rw [hwk];(try simp only [mirrorS,swapN]);(repeat' split)<;>first|rfl|(exfalso;omega))⟩,cast (by kernel_rfl) (show n-((i+1:Nat):Int).toNat<n-(i:Int).toNat by omega)⟩
          try simp only [NRM]at h45
          refine SX.E (Value.agg (([(⟨z.id,z.role,z.bar,z.mark,z.kind,z.side,10-z.dir,z.level,z.size,z.with_,z.fn,z.fd,z.tn,z.td⟩:Sg)]).flatMap cellsSg).toArray) (fun α=>SX.app_rel (f:=cellsSg) (l1:=cur) (l2:=[(⟨z.id,z.role,z.bar,z.mark,z.kind,z.side,10-z.dir,z.level,z.size,z.with_,z.fn,z.fd,z.tn,z.td⟩:Sg)]) (fun _=>rfl) cellsSg_one (by decide) (SX.cat1 (by kernel_rfl)) (SX.src_own (by kernel_rfl)) (by simp only [LL];omega) (by simp only [LL];omega)) ?_
          refine SX.E (.int .i64 (((i+1:Nat):Int))) (fun α=>SX.W1 i) ?_
          exact SX.VC_again fun α=>⟨⟨i+1,cur++[(⟨z.id,z.role,z.bar,z.mark,z.kind,z.side,10-z.dir,z.level,z.size,z.with_,z.fn,z.fd,z.tn,z.td⟩:Sg)],Eq.trans (b:=[.int .i64 ((i+1:Nat):Int),.agg ([Value.agg (sgsL cur).toArray,Value.agg (([(⟨z.id,z.role,z.bar,z.mark,z.kind,z.side,10-z.dir,z.level,z.size,z.with_,z.fn,z.fd,z.tn,z.td⟩:Sg)]).flatMap cellsSg).toArray].flatMap SX.cellsV).toArray]) (by kernel_rfl) (by simp [SX.cellsV,sgsL]),by omega,acc_step hz hacc (by rw [hwk];(try simp only [mirrorS,swapN]);(repeat' split)<;>first|rfl|(exfalso;omega))⟩,cast (by kernel_rfl) (show n-((i+1:Nat):Int).toNat<n-(i:Int).toNat by omega)⟩
         try simp only [NRM]at h43
         refine SX.D (.bool ((z.kind:Int) == 6)) ?_
         refine SX.B ((z.kind:Int) == 6) (fun h44=>?_) (fun h44=>?_)
         ·try simp only [NRM]at h44
          refine SX.D (.bool (decide (z.size≥1))) ?_
          refine SX.B (decide (z.size≥1)) (fun h45=>?_) (fun h45=>?_)
          ·try simp only [NRM]at h45
           refine SX.D (.bool (decide (z.size≤7))) ?_
           refine SX.B (decide (z.size≤7)) (fun h46=>?_) (fun h46=>?_)
           ·try simp only [NRM]at h46
            refine SX.E (.int .i64 (8-z.size)) (fun α=>SX.W (8-z.size)) ?_
            refine SX.E (Value.agg (([(⟨z.id,z.role,z.bar,z.mark,z.kind,z.side,z.dir,z.level,8-z.size,z.with_,z.fn,z.fd,z.tn,z.td⟩:Sg)]).flatMap cellsSg).toArray) (fun α=>SX.app_rel (f:=cellsSg) (l1:=cur) (l2:=[(⟨z.id,z.role,z.bar,z.mark,z.kind,z.side,z.dir,z.level,8-z.size,z.with_,z.fn,z.fd,z.tn,z.td⟩:Sg)]) (fun _=>rfl) cellsSg_one (by decide) (SX.cat1 (by kernel_rfl)) (SX.src_own (by kernel_rfl)) (by simp only [LL];omega) (by simp only [LL];omega)) ?_
            refine SX.E (.int .i64 (((i+1:Nat):Int))) (fun α=>SX.W1 i) ?_
            exact SX.VC_again fun α=>⟨⟨i+1,cur++[(⟨z.id,z.role,z.bar,z.mark,z.kind,z.side,z.dir,z.level,8-z.size,z.with_,z.fn,z.fd,z.tn,z.td⟩:Sg)],Eq.trans (b:=[.int .i64 ((i+1:Nat):Int),.agg ([Value.agg (sgsL cur).toArray,Value.agg (([(⟨z.id,z.role,z.bar,z.mark,z.kind,z.side,z.dir,z.level,8-z.size,z.with_,z.fn,z.fd,z.tn,z.td⟩:Sg)]).flatMap cellsSg).toArray].flatMap SX.cellsV).toArray]) (by kernel_rfl) (by simp [SX.cellsV,sgsL]),by omega,acc_step hz hacc (by rw [hwk];(try simp only [mirrorS,swapN]);(repeat' split)<;>first|rfl|(exfalso;omega))⟩,cast (by kernel_rfl) (show n-((i+1:Nat):Int).toNat<n-(i:Int).toNat by omega)⟩
           try simp only [NRM]at h46
           refine SX.E (Value.agg (([z]).flatMap cellsSg).toArray) (fun α=>SX.app_rel (f:=cellsSg) (l1:=cur) (l2:=[z]) (fun _=>rfl) cellsSg_one (by decide) (SX.cat1 (by kernel_rfl)) (SX.src_own (by kernel_rfl)) (by simp only [LL];omega) (by simp only [LL];omega)) ?_
           refine SX.E (.int .i64 (((i+1:Nat):Int))) (fun α=>SX.W1 i) ?_
           exact SX.VC_again fun α=>⟨⟨i+1,cur++[z],Eq.trans (b:=[.int .i64 ((i+1:Nat):Int),.agg ([Value.agg (sgsL cur).toArray,Value.agg (([z]).flatMap cellsSg).toArray].flatMap SX.cellsV).toArray]) (by kernel_rfl) (by simp [SX.cellsV,sgsL]),by omega,acc_step hz hacc (by rw [hwk];(try simp only [mirrorS,swapN]);(repeat' split)<;>first|rfl|(exfalso;omega))⟩,cast (by kernel_rfl) (show n-((i+1:Nat):Int).toNat<n-(i:Int).toNat by omega)⟩
          try simp only [NRM]at h45
          refine SX.E (Value.agg (([z]).flatMap cellsSg).toArray) (fun α=>SX.app_rel (f:=cellsSg) (l1:=cur) (l2:=[z]) (fun _=>rfl) cellsSg_one (by decide) (SX.cat1 (by kernel_rfl)) (SX.src_own (by kernel_rfl)) (by simp only [LL];omega) (by simp only [LL];omega)) ?_
          refine SX.E (.int .i64 (((i+1:Nat):Int))) (fun α=>SX.W1 i) ?_
          exact SX.VC_again fun α=>⟨⟨i+1,cur++[z],Eq.trans (b:=[.int .i64 ((i+1:Nat):Int),.agg ([Value.agg (sgsL cur).toArray,Value.agg (([z]).flatMap cellsSg).toArray].flatMap SX.cellsV).toArray]) (by kernel_rfl) (by simp [SX.cellsV,sgsL]),by omega,acc_step hz hacc (by rw [hwk];(try simp only [mirrorS,swapN]);(repeat' split)<;>first|rfl|(exfalso;omega))⟩,cast (by kernel_rfl) (show n-((i+1:Nat):Int).toNat<n-(i:Int).toNat by omega)⟩
         try simp only [NRM]at h44
         refine SX.E (Value.agg (([z]).flatMap cellsSg).toArray) (fun α=>SX.app_rel (f:=cellsSg) (l1:=cur) (l2:=[z]) (fun _=>rfl) cellsSg_one (by decide) (SX.cat1 (by kernel_rfl)) (SX.src_own (by kernel_rfl)) (by simp only [LL];omega) (by simp only [LL];omega)) ?_
         refine SX.E (.int .i64 (((i+1:Nat):Int))) (fun α=>SX.W1 i) ?_
         exact SX.VC_again fun α=>⟨⟨i+1,cur++[z],Eq.trans (b:=[.int .i64 ((i+1:Nat):Int),.agg ([Value.agg (sgsL cur).toArray,Value.agg (([z]).flatMap cellsSg).toArray].flatMap SX.cellsV).toArray]) (by kernel_rfl) (by simp [SX.cellsV,sgsL]),by omega,acc_step hz hacc (by rw [hwk];(try simp only [mirrorS,swapN]);(repeat' split)<;>first|rfl|(exfalso;omega))⟩,cast (by kernel_rfl) (show n-((i+1:Nat):Int).toNat<n-(i:Int).toNat by omega)⟩
        try simp only [NRM]at h40
        refine SX.E (.int .i64 (role-1)) (fun α=>SX.W (role-1)) ?_
        refine SX.D (.bool ((z.role:Int) == role-1)) ?_
        refine SX.B ((z.role:Int) == role-1) (fun h42=>?_) (fun h42=>?_)
        ·try simp only [NRM]at h42
         refine SX.D (.bool ((z.side:Int) == 1)) ?_
         refine SX.B ((z.side:Int) == 1) (fun h43=>?_) (fun h43=>?_)
         ·try simp only [NRM]at h43
          refine SX.D (.bool (decide (z.dir>1))) ?_
          refine SX.B (decide (z.dir>1)) (fun h44=>?_) (fun h44=>?_)
          ·try simp only [NRM]at h44
           refine SX.E (.int .i64 (10-z.dir)) (fun α=>SX.W (10-z.dir)) ?_
           refine SX.D (.bool ((z.kind:Int) == 6)) ?_
           refine SX.B ((z.kind:Int) == 6) (fun h46=>?_) (fun h46=>?_)
           ·try simp only [NRM]at h46
            refine SX.D (.bool (decide (z.size≥1))) ?_
            refine SX.B (decide (z.size≥1)) (fun h47=>?_) (fun h47=>?_)
            ·try simp only [NRM]at h47
             refine SX.D (.bool (decide (z.size≤7))) ?_
             refine SX.B (decide (z.size≤7)) (fun h48=>?_) (fun h48=>?_)
             ·try simp only [NRM]at h48
              refine SX.E (.int .i64 (8-z.size)) (fun α=>SX.W (8-z.size)) ?_
              refine SX.E (Value.agg (([(⟨z.id,z.role,z.bar,z.mark,z.kind,2,10-z.dir,z.level,8-z.size,z.with_,z.fn,z.fd,z.tn,z.td⟩:Sg)]).flatMap cellsSg).toArray) (fun α=>SX.app_rel (f:=cellsSg) (l1:=cur) (l2:=[(⟨z.id,z.role,z.bar,z.mark,z.kind,2,10-z.dir,z.level,8-z.size,z.with_,z.fn,z.fd,z.tn,z.td⟩:Sg)]) (fun _=>rfl) cellsSg_one (by decide) (SX.cat1 (by kernel_rfl)) (SX.src_own (by kernel_rfl)) (by simp only [LL];omega) (by simp only [LL];omega)) ?_
              refine SX.E (.int .i64 (((i+1:Nat):Int))) (fun α=>SX.W1 i) ?_
              exact SX.VC_again fun α=>⟨⟨i+1,cur++[(⟨z.id,z.role,z.bar,z.mark,z.kind,2,10-z.dir,z.level,8-z.size,z.with_,z.fn,z.fd,z.tn,z.td⟩:Sg)],Eq.trans (b:=[.int .i64 ((i+1:Nat):Int),.agg ([Value.agg (sgsL cur).toArray,Value.agg (([(⟨z.id,z.role,z.bar,z.mark,z.kind,2,10-z.dir,z.level,8-z.size,z.with_,z.fn,z.fd,z.tn,z.td⟩:Sg)]).flatMap cellsSg).toArray].flatMap SX.cellsV).toArray]) (by kernel_rfl) (by simp [SX.cellsV,sgsL]),by omega,acc_step hz hacc (by rw [hwk];(try simp only [mirrorS,swapN]);(repeat' split)<;>first|rfl|(exfalso;omega))⟩,cast (by kernel_rfl) (show n-((i+1:Nat):Int).toNat<n-(i:Int).toNat by omega)⟩
             try simp only [NRM]at h48
             refine SX.E (Value.agg (([(⟨z.id,z.role,z.bar,z.mark,z.kind,2,10-z.dir,z.level,z.size,z.with_,z.fn,z.fd,z.tn,z.td⟩:Sg)]).flatMap cellsSg).toArray) (fun α=>SX.app_rel (f:=cellsSg) (l1:=cur) (l2:=[(⟨z.id,z.role,z.bar,z.mark,z.kind,2,10-z.dir,z.level,z.size,z.with_,z.fn,z.fd,z.tn,z.td⟩:Sg)]) (fun _=>rfl) cellsSg_one (by decide) (SX.cat1 (by kernel_rfl)) (SX.src_own (by kernel_rfl)) (by simp only [LL];omega) (by simp only [LL];omega)) ?_
             refine SX.E (.int .i64 (((i+1:Nat):Int))) (fun α=>SX.W1 i) ?_
             exact SX.VC_again fun α=>⟨⟨i+1,cur++[(⟨z.id,z.role,z.bar,z.mark,z.kind,2,10-z.dir,z.level,z.size,z.with_,z.fn,z.fd,z.tn,z.td⟩:Sg)],Eq.trans (b:=[.int .i64 ((i+1:Nat):Int),.agg ([Value.agg (sgsL cur).toArray,Value.agg (([(⟨z.id,z.role,z.bar,z.mark,z.kind,2,10-z.dir,z.level,z.size,z.with_,z.fn,z.fd,z.tn,z.td⟩:Sg)]).flatMap cellsSg).toArray].flatMap SX.cellsV).toArray]) (by kernel_rfl) (by simp [SX.cellsV,sgsL]),by omega,acc_step hz hacc (by rw [hwk];(try simp only [mirrorS,swapN]);(repeat' split)<;>first|rfl|(exfalso;omega))⟩,cast (by kernel_rfl) (show n-((i+1:Nat):Int).toNat<n-(i:Int).toNat by omega)⟩
            try simp only [NRM]at h47
            refine SX.E (Value.agg (([(⟨z.id,z.role,z.bar,z.mark,z.kind,2,10-z.dir,z.level,z.size,z.with_,z.fn,z.fd,z.tn,z.td⟩:Sg)]).flatMap cellsSg).toArray) (fun α=>SX.app_rel (f:=cellsSg) (l1:=cur) (l2:=[(⟨z.id,z.role,z.bar,z.mark,z.kind,2,10-z.dir,z.level,z.size,z.with_,z.fn,z.fd,z.tn,z.td⟩:Sg)]) (fun _=>rfl) cellsSg_one (by decide) (SX.cat1 (by kernel_rfl)) (SX.src_own (by kernel_rfl)) (by simp only [LL];omega) (by simp only [LL];omega)) ?_
            refine SX.E (.int .i64 (((i+1:Nat):Int))) (fun α=>SX.W1 i) ?_
            exact SX.VC_again fun α=>⟨⟨i+1,cur++[(⟨z.id,z.role,z.bar,z.mark,z.kind,2,10-z.dir,z.level,z.size,z.with_,z.fn,z.fd,z.tn,z.td⟩:Sg)],Eq.trans (b:=[.int .i64 ((i+1:Nat):Int),.agg ([Value.agg (sgsL cur).toArray,Value.agg (([(⟨z.id,z.role,z.bar,z.mark,z.kind,2,10-z.dir,z.level,z.size,z.with_,z.fn,z.fd,z.tn,z.td⟩:Sg)]).flatMap cellsSg).toArray].flatMap SX.cellsV).toArray]) (by kernel_rfl) (by simp [SX.cellsV,sgsL]),by omega,acc_step hz hacc (by rw [hwk];(try simp only [mirrorS,swapN]);(repeat' split)<;>first|rfl|(exfalso;omega))⟩,cast (by kernel_rfl) (show n-((i+1:Nat):Int).toNat<n-(i:Int).toNat by omega)⟩
           try simp only [NRM]at h46
           refine SX.E (Value.agg (([(⟨z.id,z.role,z.bar,z.mark,z.kind,2,10-z.dir,z.level,z.size,z.with_,z.fn,z.fd,z.tn,z.td⟩:Sg)]).flatMap cellsSg).toArray) (fun α=>SX.app_rel (f:=cellsSg) (l1:=cur) (l2:=[(⟨z.id,z.role,z.bar,z.mark,z.kind,2,10-z.dir,z.level,z.size,z.with_,z.fn,z.fd,z.tn,z.td⟩:Sg)]) (fun _=>rfl) cellsSg_one (by decide) (SX.cat1 (by kernel_rfl)) (SX.src_own (by kernel_rfl)) (by simp only [LL];omega) (by simp only [LL];omega)) ?_
           refine SX.E (.int .i64 (((i+1:Nat):Int))) (fun α=>SX.W1 i) ?_
           exact SX.VC_again fun α=>⟨⟨i+1,cur++[(⟨z.id,z.role,z.bar,z.mark,z.kind,2,10-z.dir,z.level,z.size,z.with_,z.fn,z.fd,z.tn,z.td⟩:Sg)],Eq.trans (b:=[.int .i64 ((i+1:Nat):Int),.agg ([Value.agg (sgsL cur).toArray,Value.agg (([(⟨z.id,z.role,z.bar,z.mark,z.kind,2,10-z.dir,z.level,z.size,z.with_,z.fn,z.fd,z.tn,z.td⟩:Sg)]).flatMap cellsSg).toArray].flatMap SX.cellsV).toArray]) (by kernel_rfl) (by simp [SX.cellsV,sgsL]),by omega,acc_step hz hacc (by rw [hwk];(try simp only [mirrorS,swapN]);(repeat' split)<;>first|rfl|(exfalso;omega))⟩,cast (by kernel_rfl) (show n-((i+1:Nat):Int).toNat<n-(i:Int).toNat by omega)⟩
          try simp only [NRM]at h44
          refine SX.D (.bool ((z.kind:Int) == 6)) ?_
          refine SX.B ((z.kind:Int) == 6) (fun h45=>?_) (fun h45=>?_)
          ·try simp only [NRM]at h45
           refine SX.D (.bool (decide (z.size≥1))) ?_
           refine SX.B (decide (z.size≥1)) (fun h46=>?_) (fun h46=>?_)
           ·try simp only [NRM]at h46
            refine SX.D (.bool (decide (z.size≤7))) ?_
            refine SX.B (decide (z.size≤7)) (fun h47=>?_) (fun h47=>?_)
            ·try simp only [NRM]at h47
             refine SX.E (.int .i64 (8-z.size)) (fun α=>SX.W (8-z.size)) ?_
             refine SX.E (Value.agg (([(⟨z.id,z.role,z.bar,z.mark,z.kind,2,z.dir,z.level,8-z.size,z.with_,z.fn,z.fd,z.tn,z.td⟩:Sg)]).flatMap cellsSg).toArray) (fun α=>SX.app_rel (f:=cellsSg) (l1:=cur) (l2:=[(⟨z.id,z.role,z.bar,z.mark,z.kind,2,z.dir,z.level,8-z.size,z.with_,z.fn,z.fd,z.tn,z.td⟩:Sg)]) (fun _=>rfl) cellsSg_one (by decide) (SX.cat1 (by kernel_rfl)) (SX.src_own (by kernel_rfl)) (by simp only [LL];omega) (by simp only [LL];omega)) ?_
             refine SX.E (.int .i64 (((i+1:Nat):Int))) (fun α=>SX.W1 i) ?_
             exact SX.VC_again fun α=>⟨⟨i+1,cur++[(⟨z.id,z.role,z.bar,z.mark,z.kind,2,z.dir,z.level,8-z.size,z.with_,z.fn,z.fd,z.tn,z.td⟩:Sg)],Eq.trans (b:=[.int .i64 ((i+1:Nat):Int),.agg ([Value.agg (sgsL cur).toArray,Value.agg (([(⟨z.id,z.role,z.bar,z.mark,z.kind,2,z.dir,z.level,8-z.size,z.with_,z.fn,z.fd,z.tn,z.td⟩:Sg)]).flatMap cellsSg).toArray].flatMap SX.cellsV).toArray]) (by kernel_rfl) (by simp [SX.cellsV,sgsL]),by omega,acc_step hz hacc (by rw [hwk];(try simp only [mirrorS,swapN]);(repeat' split)<;>first|rfl|(exfalso;omega))⟩,cast (by kernel_rfl) (show n-((i+1:Nat):Int).toNat<n-(i:Int).toNat by omega)⟩
            try simp only [NRM]at h47
            refine SX.E (Value.agg (([(⟨z.id,z.role,z.bar,z.mark,z.kind,2,z.dir,z.level,z.size,z.with_,z.fn,z.fd,z.tn,z.td⟩:Sg)]).flatMap cellsSg).toArray) (fun α=>SX.app_rel (f:=cellsSg) (l1:=cur) (l2:=[(⟨z.id,z.role,z.bar,z.mark,z.kind,2,z.dir,z.level,z.size,z.with_,z.fn,z.fd,z.tn,z.td⟩:Sg)]) (fun _=>rfl) cellsSg_one (by decide) (SX.cat1 (by kernel_rfl)) (SX.src_own (by kernel_rfl)) (by simp only [LL];omega) (by simp only [LL];omega)) ?_
            refine SX.E (.int .i64 (((i+1:Nat):Int))) (fun α=>SX.W1 i) ?_
            exact SX.VC_again fun α=>⟨⟨i+1,cur++[(⟨z.id,z.role,z.bar,z.mark,z.kind,2,z.dir,z.level,z.size,z.with_,z.fn,z.fd,z.tn,z.td⟩:Sg)],Eq.trans (b:=[.int .i64 ((i+1:Nat):Int),.agg ([Value.agg (sgsL cur).toArray,Value.agg (([(⟨z.id,z.role,z.bar,z.mark,z.kind,2,z.dir,z.level,z.size,z.with_,z.fn,z.fd,z.tn,z.td⟩:Sg)]).flatMap cellsSg).toArray].flatMap SX.cellsV).toArray]) (by kernel_rfl) (by simp [SX.cellsV,sgsL]),by omega,acc_step hz hacc (by rw [hwk];(try simp only [mirrorS,swapN]);(repeat' split)<;>first|rfl|(exfalso;omega))⟩,cast (by kernel_rfl) (show n-((i+1:Nat):Int).toNat<n-(i:Int).toNat by omega)⟩
           try simp only [NRM]at h46
           refine SX.E (Value.agg (([(⟨z.id,z.role,z.bar,z.mark,z.kind,2,z.dir,z.level,z.size,z.with_,z.fn,z.fd,z.tn,z.td⟩:Sg)]).flatMap cellsSg).toArray) (fun α=>SX.app_rel (f:=cellsSg) (l1:=cur) (l2:=[(⟨z.id,z.role,z.bar,z.mark,z.kind,2,z.dir,z.level,z.size,z.with_,z.fn,z.fd,z.tn,z.td⟩:Sg)]) (fun _=>rfl) cellsSg_one (by decide) (SX.cat1 (by kernel_rfl)) (SX.src_own (by kernel_rfl)) (by simp only [LL];omega) (by simp only [LL];omega)) ?_
           refine SX.E (.int .i64 (((i+1:Nat):Int))) (fun α=>SX.W1 i) ?_
           exact SX.VC_again fun α=>⟨⟨i+1,cur++[(⟨z.id,z.role,z.bar,z.mark,z.kind,2,z.dir,z.level,z.size,z.with_,z.fn,z.fd,z.tn,z.td⟩:Sg)],Eq.trans (b:=[.int .i64 ((i+1:Nat):Int),.agg ([Value.agg (sgsL cur).toArray,Value.agg (([(⟨z.id,z.role,z.bar,z.mark,z.kind,2,z.dir,z.level,z.size,z.with_,z.fn,z.fd,z.tn,z.td⟩:Sg)]).flatMap cellsSg).toArray].flatMap SX.cellsV).toArray]) (by kernel_rfl) (by simp [SX.cellsV,sgsL]),by omega,acc_step hz hacc (by rw [hwk];(try simp only [mirrorS,swapN]);(repeat' split)<;>first|rfl|(exfalso;omega))⟩,cast (by kernel_rfl) (show n-((i+1:Nat):Int).toNat<n-(i:Int).toNat by omega)⟩
          try simp only [NRM]at h45
          refine SX.E (Value.agg (([(⟨z.id,z.role,z.bar,z.mark,z.kind,2,z.dir,z.level,z.size,z.with_,z.fn,z.fd,z.tn,z.td⟩:Sg)]).flatMap cellsSg).toArray) (fun α=>SX.app_rel (f:=cellsSg) (l1:=cur) (l2:=[(⟨z.id,z.role,z.bar,z.mark,z.kind,2,z.dir,z.level,z.size,z.with_,z.fn,z.fd,z.tn,z.td⟩:Sg)]) (fun _=>rfl) cellsSg_one (by decide) (SX.cat1 (by kernel_rfl)) (SX.src_own (by kernel_rfl)) (by simp only [LL];omega) (by simp only [LL];omega)) ?_
          refine SX.E (.int .i64 (((i+1:Nat):Int))) (fun α=>SX.W1 i) ?_
          exact SX.VC_again fun α=>⟨⟨i+1,cur++[(⟨z.id,z.role,z.bar,z.mark,z.kind,2,z.dir,z.level,z.size,z.with_,z.fn,z.fd,z.tn,z.td⟩:Sg)],Eq.trans (b:=[.int .i64 ((i+1:Nat):Int),.agg ([Value.agg (sgsL cur).toArray,Value.agg (([(⟨z.id,z.role,z.bar,z.mark,z.kind,2,z.dir,z.level,z.size,z.with_,z.fn,z.fd,z.tn,z.td⟩:Sg)]).flatMap cellsSg).toArray].flatMap SX.cellsV).toArray]) (by kernel_rfl) (by simp [SX.cellsV,sgsL]),by omega,acc_step hz hacc (by rw [hwk];(try simp only [mirrorS,swapN]);(repeat' split)<;>first|rfl|(exfalso;omega))⟩,cast (by kernel_rfl) (show n-((i+1:Nat):Int).toNat<n-(i:Int).toNat by omega)⟩
         try simp only [NRM]at h43
         refine SX.D (.bool ((z.side:Int) == 2)) ?_
         refine SX.B ((z.side:Int) == 2) (fun h44=>?_) (fun h44=>?_)
         ·try simp only [NRM]at h44
          refine SX.D (.bool (decide (z.dir>1))) ?_
          refine SX.B (decide (z.dir>1)) (fun h45=>?_) (fun h45=>?_)
          ·try simp only [NRM]at h45
           refine SX.E (.int .i64 (10-z.dir)) (fun α=>SX.W (10-z.dir)) ?_
           refine SX.D (.bool ((z.kind:Int) == 6)) ?_
           refine SX.B ((z.kind:Int) == 6) (fun h47=>?_) (fun h47=>?_)
           ·try simp only [NRM]at h47
            refine SX.D (.bool (decide (z.size≥1))) ?_
            refine SX.B (decide (z.size≥1)) (fun h48=>?_) (fun h48=>?_)
            ·try simp only [NRM]at h48
             refine SX.D (.bool (decide (z.size≤7))) ?_
             refine SX.B (decide (z.size≤7)) (fun h49=>?_) (fun h49=>?_)
             ·try simp only [NRM]at h49
              refine SX.E (.int .i64 (8-z.size)) (fun α=>SX.W (8-z.size)) ?_
              refine SX.E (Value.agg (([(⟨z.id,z.role,z.bar,z.mark,z.kind,1,10-z.dir,z.level,8-z.size,z.with_,z.fn,z.fd,z.tn,z.td⟩:Sg)]).flatMap cellsSg).toArray) (fun α=>SX.app_rel (f:=cellsSg) (l1:=cur) (l2:=[(⟨z.id,z.role,z.bar,z.mark,z.kind,1,10-z.dir,z.level,8-z.size,z.with_,z.fn,z.fd,z.tn,z.td⟩:Sg)]) (fun _=>rfl) cellsSg_one (by decide) (SX.cat1 (by kernel_rfl)) (SX.src_own (by kernel_rfl)) (by simp only [LL];omega) (by simp only [LL];omega)) ?_
              refine SX.E (.int .i64 (((i+1:Nat):Int))) (fun α=>SX.W1 i) ?_
              exact SX.VC_again fun α=>⟨⟨i+1,cur++[(⟨z.id,z.role,z.bar,z.mark,z.kind,1,10-z.dir,z.level,8-z.size,z.with_,z.fn,z.fd,z.tn,z.td⟩:Sg)],Eq.trans (b:=[.int .i64 ((i+1:Nat):Int),.agg ([Value.agg (sgsL cur).toArray,Value.agg (([(⟨z.id,z.role,z.bar,z.mark,z.kind,1,10-z.dir,z.level,8-z.size,z.with_,z.fn,z.fd,z.tn,z.td⟩:Sg)]).flatMap cellsSg).toArray].flatMap SX.cellsV).toArray]) (by kernel_rfl) (by simp [SX.cellsV,sgsL]),by omega,acc_step hz hacc (by rw [hwk];(try simp only [mirrorS,swapN]);(repeat' split)<;>first|rfl|(exfalso;omega))⟩,cast (by kernel_rfl) (show n-((i+1:Nat):Int).toNat<n-(i:Int).toNat by omega)⟩
             try simp only [NRM]at h49
             refine SX.E (Value.agg (([(⟨z.id,z.role,z.bar,z.mark,z.kind,1,10-z.dir,z.level,z.size,z.with_,z.fn,z.fd,z.tn,z.td⟩:Sg)]).flatMap cellsSg).toArray) (fun α=>SX.app_rel (f:=cellsSg) (l1:=cur) (l2:=[(⟨z.id,z.role,z.bar,z.mark,z.kind,1,10-z.dir,z.level,z.size,z.with_,z.fn,z.fd,z.tn,z.td⟩:Sg)]) (fun _=>rfl) cellsSg_one (by decide) (SX.cat1 (by kernel_rfl)) (SX.src_own (by kernel_rfl)) (by simp only [LL];omega) (by simp only [LL];omega)) ?_
             refine SX.E (.int .i64 (((i+1:Nat):Int))) (fun α=>SX.W1 i) ?_
             exact SX.VC_again fun α=>⟨⟨i+1,cur++[(⟨z.id,z.role,z.bar,z.mark,z.kind,1,10-z.dir,z.level,z.size,z.with_,z.fn,z.fd,z.tn,z.td⟩:Sg)],Eq.trans (b:=[.int .i64 ((i+1:Nat):Int),.agg ([Value.agg (sgsL cur).toArray,Value.agg (([(⟨z.id,z.role,z.bar,z.mark,z.kind,1,10-z.dir,z.level,z.size,z.with_,z.fn,z.fd,z.tn,z.td⟩:Sg)]).flatMap cellsSg).toArray].flatMap SX.cellsV).toArray]) (by kernel_rfl) (by simp [SX.cellsV,sgsL]),by omega,acc_step hz hacc (by rw [hwk];(try simp only [mirrorS,swapN]);(repeat' split)<;>first|rfl|(exfalso;omega))⟩,cast (by kernel_rfl) (show n-((i+1:Nat):Int).toNat<n-(i:Int).toNat by omega)⟩
            try simp only [NRM]at h48
            refine SX.E (Value.agg (([(⟨z.id,z.role,z.bar,z.mark,z.kind,1,10-z.dir,z.level,z.size,z.with_,z.fn,z.fd,z.tn,z.td⟩:Sg)]).flatMap cellsSg).toArray) (fun α=>SX.app_rel (f:=cellsSg) (l1:=cur) (l2:=[(⟨z.id,z.role,z.bar,z.mark,z.kind,1,10-z.dir,z.level,z.size,z.with_,z.fn,z.fd,z.tn,z.td⟩:Sg)]) (fun _=>rfl) cellsSg_one (by decide) (SX.cat1 (by kernel_rfl)) (SX.src_own (by kernel_rfl)) (by simp only [LL];omega) (by simp only [LL];omega)) ?_
            refine SX.E (.int .i64 (((i+1:Nat):Int))) (fun α=>SX.W1 i) ?_
            exact SX.VC_again fun α=>⟨⟨i+1,cur++[(⟨z.id,z.role,z.bar,z.mark,z.kind,1,10-z.dir,z.level,z.size,z.with_,z.fn,z.fd,z.tn,z.td⟩:Sg)],Eq.trans (b:=[.int .i64 ((i+1:Nat):Int),.agg ([Value.agg (sgsL cur).toArray,Value.agg (([(⟨z.id,z.role,z.bar,z.mark,z.kind,1,10-z.dir,z.level,z.size,z.with_,z.fn,z.fd,z.tn,z.td⟩:Sg)]).flatMap cellsSg).toArray].flatMap SX.cellsV).toArray]) (by kernel_rfl) (by simp [SX.cellsV,sgsL]),by omega,acc_step hz hacc (by rw [hwk];(try simp only [mirrorS,swapN]);(repeat' split)<;>first|rfl|(exfalso;omega))⟩,cast (by kernel_rfl) (show n-((i+1:Nat):Int).toNat<n-(i:Int).toNat by omega)⟩
           try simp only [NRM]at h47
           refine SX.E (Value.agg (([(⟨z.id,z.role,z.bar,z.mark,z.kind,1,10-z.dir,z.level,z.size,z.with_,z.fn,z.fd,z.tn,z.td⟩:Sg)]).flatMap cellsSg).toArray) (fun α=>SX.app_rel (f:=cellsSg) (l1:=cur) (l2:=[(⟨z.id,z.role,z.bar,z.mark,z.kind,1,10-z.dir,z.level,z.size,z.with_,z.fn,z.fd,z.tn,z.td⟩:Sg)]) (fun _=>rfl) cellsSg_one (by decide) (SX.cat1 (by kernel_rfl)) (SX.src_own (by kernel_rfl)) (by simp only [LL];omega) (by simp only [LL];omega)) ?_
           refine SX.E (.int .i64 (((i+1:Nat):Int))) (fun α=>SX.W1 i) ?_
           exact SX.VC_again fun α=>⟨⟨i+1,cur++[(⟨z.id,z.role,z.bar,z.mark,z.kind,1,10-z.dir,z.level,z.size,z.with_,z.fn,z.fd,z.tn,z.td⟩:Sg)],Eq.trans (b:=[.int .i64 ((i+1:Nat):Int),.agg ([Value.agg (sgsL cur).toArray,Value.agg (([(⟨z.id,z.role,z.bar,z.mark,z.kind,1,10-z.dir,z.level,z.size,z.with_,z.fn,z.fd,z.tn,z.td⟩:Sg)]).flatMap cellsSg).toArray].flatMap SX.cellsV).toArray]) (by kernel_rfl) (by simp [SX.cellsV,sgsL]),by omega,acc_step hz hacc (by rw [hwk];(try simp only [mirrorS,swapN]);(repeat' split)<;>first|rfl|(exfalso;omega))⟩,cast (by kernel_rfl) (show n-((i+1:Nat):Int).toNat<n-(i:Int).toNat by omega)⟩
          try simp only [NRM]at h45
          refine SX.D (.bool ((z.kind:Int) == 6)) ?_
          refine SX.B ((z.kind:Int) == 6) (fun h46=>?_) (fun h46=>?_)
          ·try simp only [NRM]at h46
           refine SX.D (.bool (decide (z.size≥1))) ?_
           refine SX.B (decide (z.size≥1)) (fun h47=>?_) (fun h47=>?_)
           ·try simp only [NRM]at h47
            refine SX.D (.bool (decide (z.size≤7))) ?_
            refine SX.B (decide (z.size≤7)) (fun h48=>?_) (fun h48=>?_)
            ·try simp only [NRM]at h48
             refine SX.E (.int .i64 (8-z.size)) (fun α=>SX.W (8-z.size)) ?_
             refine SX.E (Value.agg (([(⟨z.id,z.role,z.bar,z.mark,z.kind,1,z.dir,z.level,8-z.size,z.with_,z.fn,z.fd,z.tn,z.td⟩:Sg)]).flatMap cellsSg).toArray) (fun α=>SX.app_rel (f:=cellsSg) (l1:=cur) (l2:=[(⟨z.id,z.role,z.bar,z.mark,z.kind,1,z.dir,z.level,8-z.size,z.with_,z.fn,z.fd,z.tn,z.td⟩:Sg)]) (fun _=>rfl) cellsSg_one (by decide) (SX.cat1 (by kernel_rfl)) (SX.src_own (by kernel_rfl)) (by simp only [LL];omega) (by simp only [LL];omega)) ?_
             refine SX.E (.int .i64 (((i+1:Nat):Int))) (fun α=>SX.W1 i) ?_
             exact SX.VC_again fun α=>⟨⟨i+1,cur++[(⟨z.id,z.role,z.bar,z.mark,z.kind,1,z.dir,z.level,8-z.size,z.with_,z.fn,z.fd,z.tn,z.td⟩:Sg)],Eq.trans (b:=[.int .i64 ((i+1:Nat):Int),.agg ([Value.agg (sgsL cur).toArray,Value.agg (([(⟨z.id,z.role,z.bar,z.mark,z.kind,1,z.dir,z.level,8-z.size,z.with_,z.fn,z.fd,z.tn,z.td⟩:Sg)]).flatMap cellsSg).toArray].flatMap SX.cellsV).toArray]) (by kernel_rfl) (by simp [SX.cellsV,sgsL]),by omega,acc_step hz hacc (by rw [hwk];(try simp only [mirrorS,swapN]);(repeat' split)<;>first|rfl|(exfalso;omega))⟩,cast (by kernel_rfl) (show n-((i+1:Nat):Int).toNat<n-(i:Int).toNat by omega)⟩
            try simp only [NRM]at h48
            refine SX.E (Value.agg (([(⟨z.id,z.role,z.bar,z.mark,z.kind,1,z.dir,z.level,z.size,z.with_,z.fn,z.fd,z.tn,z.td⟩:Sg)]).flatMap cellsSg).toArray) (fun α=>SX.app_rel (f:=cellsSg) (l1:=cur) (l2:=[(⟨z.id,z.role,z.bar,z.mark,z.kind,1,z.dir,z.level,z.size,z.with_,z.fn,z.fd,z.tn,z.td⟩:Sg)]) (fun _=>rfl) cellsSg_one (by decide) (SX.cat1 (by kernel_rfl)) (SX.src_own (by kernel_rfl)) (by simp only [LL];omega) (by simp only [LL];omega)) ?_
            refine SX.E (.int .i64 (((i+1:Nat):Int))) (fun α=>SX.W1 i) ?_
            exact SX.VC_again fun α=>⟨⟨i+1,cur++[(⟨z.id,z.role,z.bar,z.mark,z.kind,1,z.dir,z.level,z.size,z.with_,z.fn,z.fd,z.tn,z.td⟩:Sg)],Eq.trans (b:=[.int .i64 ((i+1:Nat):Int),.agg ([Value.agg (sgsL cur).toArray,Value.agg (([(⟨z.id,z.role,z.bar,z.mark,z.kind,1,z.dir,z.level,z.size,z.with_,z.fn,z.fd,z.tn,z.td⟩:Sg)]).flatMap cellsSg).toArray].flatMap SX.cellsV).toArray]) (by kernel_rfl) (by simp [SX.cellsV,sgsL]),by omega,acc_step hz hacc (by rw [hwk];(try simp only [mirrorS,swapN]);(repeat' split)<;>first|rfl|(exfalso;omega))⟩,cast (by kernel_rfl) (show n-((i+1:Nat):Int).toNat<n-(i:Int).toNat by omega)⟩
           try simp only [NRM]at h47
           refine SX.E (Value.agg (([(⟨z.id,z.role,z.bar,z.mark,z.kind,1,z.dir,z.level,z.size,z.with_,z.fn,z.fd,z.tn,z.td⟩:Sg)]).flatMap cellsSg).toArray) (fun α=>SX.app_rel (f:=cellsSg) (l1:=cur) (l2:=[(⟨z.id,z.role,z.bar,z.mark,z.kind,1,z.dir,z.level,z.size,z.with_,z.fn,z.fd,z.tn,z.td⟩:Sg)]) (fun _=>rfl) cellsSg_one (by decide) (SX.cat1 (by kernel_rfl)) (SX.src_own (by kernel_rfl)) (by simp only [LL];omega) (by simp only [LL];omega)) ?_
           refine SX.E (.int .i64 (((i+1:Nat):Int))) (fun α=>SX.W1 i) ?_
           exact SX.VC_again fun α=>⟨⟨i+1,cur++[(⟨z.id,z.role,z.bar,z.mark,z.kind,1,z.dir,z.level,z.size,z.with_,z.fn,z.fd,z.tn,z.td⟩:Sg)],Eq.trans (b:=[.int .i64 ((i+1:Nat):Int),.agg ([Value.agg (sgsL cur).toArray,Value.agg (([(⟨z.id,z.role,z.bar,z.mark,z.kind,1,z.dir,z.level,z.size,z.with_,z.fn,z.fd,z.tn,z.td⟩:Sg)]).flatMap cellsSg).toArray].flatMap SX.cellsV).toArray]) (by kernel_rfl) (by simp [SX.cellsV,sgsL]),by omega,acc_step hz hacc (by rw [hwk];(try simp only [mirrorS,swapN]);(repeat' split)<;>first|rfl|(exfalso;omega))⟩,cast (by kernel_rfl) (show n-((i+1:Nat):Int).toNat<n-(i:Int).toNat by omega)⟩
          try simp only [NRM]at h46
          refine SX.E (Value.agg (([(⟨z.id,z.role,z.bar,z.mark,z.kind,1,z.dir,z.level,z.size,z.with_,z.fn,z.fd,z.tn,z.td⟩:Sg)]).flatMap cellsSg).toArray) (fun α=>SX.app_rel (f:=cellsSg) (l1:=cur) (l2:=[(⟨z.id,z.role,z.bar,z.mark,z.kind,1,z.dir,z.level,z.size,z.with_,z.fn,z.fd,z.tn,z.td⟩:Sg)]) (fun _=>rfl) cellsSg_one (by decide) (SX.cat1 (by kernel_rfl)) (SX.src_own (by kernel_rfl)) (by simp only [LL];omega) (by simp only [LL];omega)) ?_
          refine SX.E (.int .i64 (((i+1:Nat):Int))) (fun α=>SX.W1 i) ?_
          exact SX.VC_again fun α=>⟨⟨i+1,cur++[(⟨z.id,z.role,z.bar,z.mark,z.kind,1,z.dir,z.level,z.size,z.with_,z.fn,z.fd,z.tn,z.td⟩:Sg)],Eq.trans (b:=[.int .i64 ((i+1:Nat):Int),.agg ([Value.agg (sgsL cur).toArray,Value.agg (([(⟨z.id,z.role,z.bar,z.mark,z.kind,1,z.dir,z.level,z.size,z.with_,z.fn,z.fd,z.tn,z.td⟩:Sg)]).flatMap cellsSg).toArray].flatMap SX.cellsV).toArray]) (by kernel_rfl) (by simp [SX.cellsV,sgsL]),by omega,acc_step hz hacc (by rw [hwk];(try simp only [mirrorS,swapN]);(repeat' split)<;>first|rfl|(exfalso;omega))⟩,cast (by kernel_rfl) (show n-((i+1:Nat):Int).toNat<n-(i:Int).toNat by omega)⟩
         try simp only [NRM]at h44
         refine SX.D (.bool (decide (z.dir>1))) ?_
         refine SX.B (decide (z.dir>1)) (fun h45=>?_) (fun h45=>?_)
         ·try simp only [NRM]at h45
          refine SX.E (.int .i64 (10-z.dir)) (fun α=>SX.W (10-z.dir)) ?_
          refine SX.D (.bool ((z.kind:Int) == 6)) ?_
          refine SX.B ((z.kind:Int) == 6) (fun h47=>?_) (fun h47=>?_)
          ·try simp only [NRM]at h47
           refine SX.D (.bool (decide (z.size≥1))) ?_
           refine SX.B (decide (z.size≥1)) (fun h48=>?_) (fun h48=>?_)
           ·try simp only [NRM]at h48
            refine SX.D (.bool (decide (z.size≤7))) ?_
            refine SX.B (decide (z.size≤7)) (fun h49=>?_) (fun h49=>?_)
            ·try simp only [NRM]at h49
             refine SX.E (.int .i64 (8-z.size)) (fun α=>SX.W (8-z.size)) ?_
             refine SX.E (Value.agg (([(⟨z.id,z.role,z.bar,z.mark,z.kind,z.side,10-z.dir,z.level,8-z.size,z.with_,z.fn,z.fd,z.tn,z.td⟩:Sg)]).flatMap cellsSg).toArray) (fun α=>SX.app_rel (f:=cellsSg) (l1:=cur) (l2:=[(⟨z.id,z.role,z.bar,z.mark,z.kind,z.side,10-z.dir,z.level,8-z.size,z.with_,z.fn,z.fd,z.tn,z.td⟩:Sg)]) (fun _=>rfl) cellsSg_one (by decide) (SX.cat1 (by kernel_rfl)) (SX.src_own (by kernel_rfl)) (by simp only [LL];omega) (by simp only [LL];omega)) ?_
             refine SX.E (.int .i64 (((i+1:Nat):Int))) (fun α=>SX.W1 i) ?_
             exact SX.VC_again fun α=>⟨⟨i+1,cur++[(⟨z.id,z.role,z.bar,z.mark,z.kind,z.side,10-z.dir,z.level,8-z.size,z.with_,z.fn,z.fd,z.tn,z.td⟩:Sg)],Eq.trans (b:=[.int .i64 ((i+1:Nat):Int),.agg ([Value.agg (sgsL cur).toArray,Value.agg (([(⟨z.id,z.role,z.bar,z.mark,z.kind,z.side,10-z.dir,z.level,8-z.size,z.with_,z.fn,z.fd,z.tn,z.td⟩:Sg)]).flatMap cellsSg).toArray].flatMap SX.cellsV).toArray]) (by kernel_rfl) (by simp [SX.cellsV,sgsL]),by omega,acc_step hz hacc (by rw [hwk];(try simp only [mirrorS,swapN]);(repeat' split)<;>first|rfl|(exfalso;omega))⟩,cast (by kernel_rfl) (show n-((i+1:Nat):Int).toNat<n-(i:Int).toNat by omega)⟩
            try simp only [NRM]at h49
            refine SX.E (Value.agg (([(⟨z.id,z.role,z.bar,z.mark,z.kind,z.side,10-z.dir,z.level,z.size,z.with_,z.fn,z.fd,z.tn,z.td⟩:Sg)]).flatMap cellsSg).toArray) (fun α=>SX.app_rel (f:=cellsSg) (l1:=cur) (l2:=[(⟨z.id,z.role,z.bar,z.mark,z.kind,z.side,10-z.dir,z.level,z.size,z.with_,z.fn,z.fd,z.tn,z.td⟩:Sg)]) (fun _=>rfl) cellsSg_one (by decide) (SX.cat1 (by kernel_rfl)) (SX.src_own (by kernel_rfl)) (by simp only [LL];omega) (by simp only [LL];omega)) ?_
            refine SX.E (.int .i64 (((i+1:Nat):Int))) (fun α=>SX.W1 i) ?_
            exact SX.VC_again fun α=>⟨⟨i+1,cur++[(⟨z.id,z.role,z.bar,z.mark,z.kind,z.side,10-z.dir,z.level,z.size,z.with_,z.fn,z.fd,z.tn,z.td⟩:Sg)],Eq.trans (b:=[.int .i64 ((i+1:Nat):Int),.agg ([Value.agg (sgsL cur).toArray,Value.agg (([(⟨z.id,z.role,z.bar,z.mark,z.kind,z.side,10-z.dir,z.level,z.size,z.with_,z.fn,z.fd,z.tn,z.td⟩:Sg)]).flatMap cellsSg).toArray].flatMap SX.cellsV).toArray]) (by kernel_rfl) (by simp [SX.cellsV,sgsL]),by omega,acc_step hz hacc (by rw [hwk];(try simp only [mirrorS,swapN]);(repeat' split)<;>first|rfl|(exfalso;omega))⟩,cast (by kernel_rfl) (show n-((i+1:Nat):Int).toNat<n-(i:Int).toNat by omega)⟩
           try simp only [NRM]at h48
           refine SX.E (Value.agg (([(⟨z.id,z.role,z.bar,z.mark,z.kind,z.side,10-z.dir,z.level,z.size,z.with_,z.fn,z.fd,z.tn,z.td⟩:Sg)]).flatMap cellsSg).toArray) (fun α=>SX.app_rel (f:=cellsSg) (l1:=cur) (l2:=[(⟨z.id,z.role,z.bar,z.mark,z.kind,z.side,10-z.dir,z.level,z.size,z.with_,z.fn,z.fd,z.tn,z.td⟩:Sg)]) (fun _=>rfl) cellsSg_one (by decide) (SX.cat1 (by kernel_rfl)) (SX.src_own (by kernel_rfl)) (by simp only [LL];omega) (by simp only [LL];omega)) ?_
           refine SX.E (.int .i64 (((i+1:Nat):Int))) (fun α=>SX.W1 i) ?_
           exact SX.VC_again fun α=>⟨⟨i+1,cur++[(⟨z.id,z.role,z.bar,z.mark,z.kind,z.side,10-z.dir,z.level,z.size,z.with_,z.fn,z.fd,z.tn,z.td⟩:Sg)],Eq.trans (b:=[.int .i64 ((i+1:Nat):Int),.agg ([Value.agg (sgsL cur).toArray,Value.agg (([(⟨z.id,z.role,z.bar,z.mark,z.kind,z.side,10-z.dir,z.level,z.size,z.with_,z.fn,z.fd,z.tn,z.td⟩:Sg)]).flatMap cellsSg).toArray].flatMap SX.cellsV).toArray]) (by kernel_rfl) (by simp [SX.cellsV,sgsL]),by omega,acc_step hz hacc (by rw [hwk];(try simp only [mirrorS,swapN]);(repeat' split)<;>first|rfl|(exfalso;omega))⟩,cast (by kernel_rfl) (show n-((i+1:Nat):Int).toNat<n-(i:Int).toNat by omega)⟩
          try simp only [NRM]at h47
          refine SX.E (Value.agg (([(⟨z.id,z.role,z.bar,z.mark,z.kind,z.side,10-z.dir,z.level,z.size,z.with_,z.fn,z.fd,z.tn,z.td⟩:Sg)]).flatMap cellsSg).toArray) (fun α=>SX.app_rel (f:=cellsSg) (l1:=cur) (l2:=[(⟨z.id,z.role,z.bar,z.mark,z.kind,z.side,10-z.dir,z.level,z.size,z.with_,z.fn,z.fd,z.tn,z.td⟩:Sg)]) (fun _=>rfl) cellsSg_one (by decide) (SX.cat1 (by kernel_rfl)) (SX.src_own (by kernel_rfl)) (by simp only [LL];omega) (by simp only [LL];omega)) ?_
          refine SX.E (.int .i64 (((i+1:Nat):Int))) (fun α=>SX.W1 i) ?_
          exact SX.VC_again fun α=>⟨⟨i+1,cur++[(⟨z.id,z.role,z.bar,z.mark,z.kind,z.side,10-z.dir,z.level,z.size,z.with_,z.fn,z.fd,z.tn,z.td⟩:Sg)],Eq.trans (b:=[.int .i64 ((i+1:Nat):Int),.agg ([Value.agg (sgsL cur).toArray,Value.agg (([(⟨z.id,z.role,z.bar,z.mark,z.kind,z.side,10-z.dir,z.level,z.size,z.with_,z.fn,z.fd,z.tn,z.td⟩:Sg)]).flatMap cellsSg).toArray].flatMap SX.cellsV).toArray]) (by kernel_rfl) (by simp [SX.cellsV,sgsL]),by omega,acc_step hz hacc (by rw [hwk];(try simp only [mirrorS,swapN]);(repeat' split)<;>first|rfl|(exfalso;omega))⟩,cast (by kernel_rfl) (show n-((i+1:Nat):Int).toNat<n-(i:Int).toNat by omega)⟩
         try simp only [NRM]at h45
         refine SX.D (.bool ((z.kind:Int) == 6)) ?_
         refine SX.B ((z.kind:Int) == 6) (fun h46=>?_) (fun h46=>?_)
         ·try simp only [NRM]at h46
          refine SX.D (.bool (decide (z.size≥1))) ?_
          refine SX.B (decide (z.size≥1)) (fun h47=>?_) (fun h47=>?_)
          ·try simp only [NRM]at h47
           refine SX.D (.bool (decide (z.size≤7))) ?_
           refine SX.B (decide (z.size≤7)) (fun h48=>?_) (fun h48=>?_)
           ·try simp only [NRM]at h48
            refine SX.E (.int .i64 (8-z.size)) (fun α=>SX.W (8-z.size)) ?_
            refine SX.E (Value.agg (([(⟨z.id,z.role,z.bar,z.mark,z.kind,z.side,z.dir,z.level,8-z.size,z.with_,z.fn,z.fd,z.tn,z.td⟩:Sg)]).flatMap cellsSg).toArray) (fun α=>SX.app_rel (f:=cellsSg) (l1:=cur) (l2:=[(⟨z.id,z.role,z.bar,z.mark,z.kind,z.side,z.dir,z.level,8-z.size,z.with_,z.fn,z.fd,z.tn,z.td⟩:Sg)]) (fun _=>rfl) cellsSg_one (by decide) (SX.cat1 (by kernel_rfl)) (SX.src_own (by kernel_rfl)) (by simp only [LL];omega) (by simp only [LL];omega)) ?_
            refine SX.E (.int .i64 (((i+1:Nat):Int))) (fun α=>SX.W1 i) ?_
            exact SX.VC_again fun α=>⟨⟨i+1,cur++[(⟨z.id,z.role,z.bar,z.mark,z.kind,z.side,z.dir,z.level,8-z.size,z.with_,z.fn,z.fd,z.tn,z.td⟩:Sg)],Eq.trans (b:=[.int .i64 ((i+1:Nat):Int),.agg ([Value.agg (sgsL cur).toArray,Value.agg (([(⟨z.id,z.role,z.bar,z.mark,z.kind,z.side,z.dir,z.level,8-z.size,z.with_,z.fn,z.fd,z.tn,z.td⟩:Sg)]).flatMap cellsSg).toArray].flatMap SX.cellsV).toArray]) (by kernel_rfl) (by simp [SX.cellsV,sgsL]),by omega,acc_step hz hacc (by rw [hwk];(try simp only [mirrorS,swapN]);(repeat' split)<;>first|rfl|(exfalso;omega))⟩,cast (by kernel_rfl) (show n-((i+1:Nat):Int).toNat<n-(i:Int).toNat by omega)⟩
           try simp only [NRM]at h48
           refine SX.E (Value.agg (([z]).flatMap cellsSg).toArray) (fun α=>SX.app_rel (f:=cellsSg) (l1:=cur) (l2:=[z]) (fun _=>rfl) cellsSg_one (by decide) (SX.cat1 (by kernel_rfl)) (SX.src_own (by kernel_rfl)) (by simp only [LL];omega) (by simp only [LL];omega)) ?_
           refine SX.E (.int .i64 (((i+1:Nat):Int))) (fun α=>SX.W1 i) ?_
           exact SX.VC_again fun α=>⟨⟨i+1,cur++[z],Eq.trans (b:=[.int .i64 ((i+1:Nat):Int),.agg ([Value.agg (sgsL cur).toArray,Value.agg (([z]).flatMap cellsSg).toArray].flatMap SX.cellsV).toArray]) (by kernel_rfl) (by simp [SX.cellsV,sgsL]),by omega,acc_step hz hacc (by rw [hwk];(try simp only [mirrorS,swapN]);(repeat' split)<;>first|rfl|(exfalso;omega))⟩,cast (by kernel_rfl) (show n-((i+1:Nat):Int).toNat<n-(i:Int).toNat by omega)⟩
          try simp only [NRM]at h47
          refine SX.E (Value.agg (([z]).flatMap cellsSg).toArray) (fun α=>SX.app_rel (f:=cellsSg) (l1:=cur) (l2:=[z]) (fun _=>rfl) cellsSg_one (by decide) (SX.cat1 (by kernel_rfl)) (SX.src_own (by kernel_rfl)) (by simp only [LL];omega) (by simp only [LL];omega)) ?_
          refine SX.E (.int .i64 (((i+1:Nat):Int))) (fun α=>SX.W1 i) ?_
          exact SX.VC_again fun α=>⟨⟨i+1,cur++[z],Eq.trans (b:=[.int .i64 ((i+1:Nat):Int),.agg ([Value.agg (sgsL cur).toArray,Value.agg (([z]).flatMap cellsSg).toArray].flatMap SX.cellsV).toArray]) (by kernel_rfl) (by simp [SX.cellsV,sgsL]),by omega,acc_step hz hacc (by rw [hwk];(try simp only [mirrorS,swapN]);(repeat' split)<;>first|rfl|(exfalso;omega))⟩,cast (by kernel_rfl) (show n-((i+1:Nat):Int).toNat<n-(i:Int).toNat by omega)⟩
         try simp only [NRM]at h46
         refine SX.E (Value.agg (([z]).flatMap cellsSg).toArray) (fun α=>SX.app_rel (f:=cellsSg) (l1:=cur) (l2:=[z]) (fun _=>rfl) cellsSg_one (by decide) (SX.cat1 (by kernel_rfl)) (SX.src_own (by kernel_rfl)) (by simp only [LL];omega) (by simp only [LL];omega)) ?_
         refine SX.E (.int .i64 (((i+1:Nat):Int))) (fun α=>SX.W1 i) ?_
         exact SX.VC_again fun α=>⟨⟨i+1,cur++[z],Eq.trans (b:=[.int .i64 ((i+1:Nat):Int),.agg ([Value.agg (sgsL cur).toArray,Value.agg (([z]).flatMap cellsSg).toArray].flatMap SX.cellsV).toArray]) (by kernel_rfl) (by simp [SX.cellsV,sgsL]),by omega,acc_step hz hacc (by rw [hwk];(try simp only [mirrorS,swapN]);(repeat' split)<;>first|rfl|(exfalso;omega))⟩,cast (by kernel_rfl) (show n-((i+1:Nat):Int).toNat<n-(i:Int).toNat by omega)⟩
        try simp only [NRM]at h42
        refine SX.E (Value.agg (([z]).flatMap cellsSg).toArray) (fun α=>SX.app_rel (f:=cellsSg) (l1:=cur) (l2:=[z]) (fun _=>rfl) cellsSg_one (by decide) (SX.cat1 (by kernel_rfl)) (SX.src_own (by kernel_rfl)) (by simp only [LL];omega) (by simp only [LL];omega)) ?_
        refine SX.E (.int .i64 (((i+1:Nat):Int))) (fun α=>SX.W1 i) ?_
        exact SX.VC_again fun α=>⟨⟨i+1,cur++[z],Eq.trans (b:=[.int .i64 ((i+1:Nat):Int),.agg ([Value.agg (sgsL cur).toArray,Value.agg (([z]).flatMap cellsSg).toArray].flatMap SX.cellsV).toArray]) (by kernel_rfl) (by simp [SX.cellsV,sgsL]),by omega,acc_step hz hacc (by rw [hwk];(try simp only [mirrorS,swapN]);(repeat' split)<;>first|rfl|(exfalso;omega))⟩,cast (by kernel_rfl) (show n-((i+1:Nat):Int).toNat<n-(i:Int).toNat by omega)⟩
       try simp only [NRM]at h39
       refine SX.E (Value.agg (([z]).flatMap cellsSg).toArray) (fun α=>SX.app_rel (f:=cellsSg) (l1:=cur) (l2:=[z]) (fun _=>rfl) cellsSg_one (by decide) (SX.cat1 (by kernel_rfl)) (SX.src_own (by kernel_rfl)) (by simp only [LL];omega) (by simp only [LL];omega)) ?_
       refine SX.E (.int .i64 (((i+1:Nat):Int))) (fun α=>SX.W1 i) ?_
       exact SX.VC_again fun α=>⟨⟨i+1,cur++[z],Eq.trans (b:=[.int .i64 ((i+1:Nat):Int),.agg ([Value.agg (sgsL cur).toArray,Value.agg (([z]).flatMap cellsSg).toArray].flatMap SX.cellsV).toArray]) (by kernel_rfl) (by simp [SX.cellsV,sgsL]),by omega,acc_step hz hacc (by rw [hwk];(try simp only [mirrorS,swapN]);(repeat' split)<;>first|rfl|(exfalso;omega))⟩,cast (by kernel_rfl) (show n-((i+1:Nat):Int).toNat<n-(i:Int).toNat by omega)⟩
      try simp only [NRM]at h38
      refine SX.E (Value.agg (([z]).flatMap cellsSg).toArray) (fun α=>SX.app_rel (f:=cellsSg) (l1:=cur) (l2:=[z]) (fun _=>rfl) cellsSg_one (by decide) (SX.cat1 (by kernel_rfl)) (SX.src_own (by kernel_rfl)) (by simp only [LL];omega) (by simp only [LL];omega)) ?_
      refine SX.E (.int .i64 (((i+1:Nat):Int))) (fun α=>SX.W1 i) ?_
      exact SX.VC_again fun α=>⟨⟨i+1,cur++[z],Eq.trans (b:=[.int .i64 ((i+1:Nat):Int),.agg ([Value.agg (sgsL cur).toArray,Value.agg (([z]).flatMap cellsSg).toArray].flatMap SX.cellsV).toArray]) (by kernel_rfl) (by simp [SX.cellsV,sgsL]),by omega,acc_step hz hacc (by rw [hwk];(try simp only [mirrorS,swapN]);(repeat' split)<;>first|rfl|(exfalso;omega))⟩,cast (by kernel_rfl) (show n-((i+1:Nat):Int).toNat<n-(i:Int).toNat by omega)⟩
     try simp only [NRM]at h35
     refine SX.E (.int .i64 ((chkS cur))) (fun α=>⟨[⟨(α 17).h,14,sgsL cur⟩],⟨Eq.trans (b:=(⟨(α 17).h,14,[Value.agg (sgsL cur).toArray].flatMap SX.cellsV⟩:SX.Arg)) (by simp [SX.cellsV]) (by kernel_rfl),trivial⟩,.inl ⟨rfl,_,cur,rfl,by omega,rfl⟩,SX.noAli rfl⟩) ?_
     refine SX.D (.bool (((chkS cur):Int) != 0)) ?_
     refine SX.B (((chkS cur):Int) != 0) (fun h37=>?_) (fun h37=>?_)
     ·try simp only [NRM]at h37
      have hfact:applyE (⟨1,role,other,fr,to,m,sn,sd,sg⟩:Ed) ss=([],chkS cur):=applyE_out h24 hok (by rw [← hacc,List.take_of_length_le (by omega)]) (by assumption)
      exact SX.VC_ret fun α W _ hR hS=>⟨hS.below,(.slice none 0 0),Eq.trans (b:=Ending.returned (.tuple #[(.slice none 0 0),.int .i64 ((chkS cur))])) (by kernel_rfl) (by rw [hfact]),(by rw [hfact];exact SX.SlRet.nil)⟩
     try simp only [NRM]at h37
     have hfact:applyE (⟨1,role,other,fr,to,m,sn,sd,sg⟩:Ed) ss=(cur,0):=applyE_ok h24 hok (by rw [← hacc,List.take_of_length_le (by omega)]) (by omega)
     exact SX.VC_ret fun α W _ hR hS=>⟨hS.below,(α 17).h,Eq.trans (b:=Ending.returned (.tuple #[(α 17).h,.int .i64 0])) (by kernel_rfl) (by rw [hfact]),SX.SlRet.row hS (n:=17) (b:=(⟨[(.x 34 [])],26,(.row 14)⟩:SX.Blk)) (by kernel_rfl) rfl (hR 17 _ (by kernel_rfl)) (Eq.trans (b:=[Value.agg (sgsL cur).toArray].flatMap SX.cellsV) (by kernel_rfl) (by rw [hfact];simp [SX.cellsV]))⟩
    try simp only [NRM]at h29
    have hfact:applyE (⟨1,role,other,fr,to,m,sn,sd,sg⟩:Ed) ss=([],360):=applyE_no h24 (fun hk=>by first|exact h25 (by rw [← hu];exact hk.2.2.1)|(have:=hrt.1 hk.2.2.2;omega)|(have:=hrt.1 hk.2.2.2;have:=okR_iff2.2 this.2.1;omega))
    exact SX.VC_ret fun α W _ hR hS=>⟨hS.below,(.slice none 0 0),Eq.trans (b:=Ending.returned (.tuple #[(.slice none 0 0),.int .i64 360])) (by kernel_rfl) (by rw [hfact]),(by rw [hfact];exact SX.SlRet.nil)⟩
   try simp only [NRM]at h28
   have hfact:applyE (⟨1,role,other,fr,to,m,sn,sd,sg⟩:Ed) ss=([],360):=applyE_no h24 (fun hk=>by first|exact h25 (by rw [← hu];exact hk.2.2.1)|(have:=hrt.1 hk.2.2.2;omega)|(have:=hrt.1 hk.2.2.2;have:=okR_iff2.2 this.2.1;omega))
   exact SX.VC_ret fun α W _ hR hS=>⟨hS.below,(.slice none 0 0),Eq.trans (b:=Ending.returned (.tuple #[(.slice none 0 0),.int .i64 360])) (by kernel_rfl) (by rw [hfact]),(by rw [hfact];exact SX.SlRet.nil)⟩
  try simp only [NRM]at h27
  have hfact:applyE (⟨1,role,other,fr,to,m,sn,sd,sg⟩:Ed) ss=([],360):=applyE_no h24 (fun hk=>by first|exact h25 (by rw [← hu];exact hk.2.2.1)|(have:=hrt.1 hk.2.2.2;omega)|(have:=hrt.1 hk.2.2.2;have:=okR_iff2.2 this.2.1;omega))
  exact SX.VC_ret fun α W _ hR hS=>⟨hS.below,(.slice none 0 0),Eq.trans (b:=Ending.returned (.tuple #[(.slice none 0 0),.int .i64 360])) (by kernel_rfl) (by rw [hfact]),(by rw [hfact];exact SX.SlRet.nil)⟩
 try simp only [NRM]at h26
 have hfact:applyE (⟨1,role,other,fr,to,m,sn,sd,sg⟩:Ed) ss=([],360):=applyE_no h24 (fun hk=>by first|exact h25 (by rw [← hu];exact hk.2.2.1)|(have:=hrt.1 hk.2.2.2;omega)|(have:=hrt.1 hk.2.2.2;have:=okR_iff2.2 this.2.1;omega))
 exact SX.VC_ret fun α W _ hR hS=>⟨hS.below,(.slice none 0 0),Eq.trans (b:=Ending.returned (.tuple #[(.slice none 0 0),.int .i64 360])) (by kernel_rfl) (by rw [hfact]),(by rw [hfact];exact SX.SlRet.nil)⟩
def tree_e7:SX.Tree :=
(.df (.call 14 [(.ext 14)]) [(.q 0)] .one
(.df (.bin .neq 31) [(.q 23),(.i 0)] .one
(.br 24 []
(.ret (.t [(.k (.slice none 0 0)),(.q 23)]) [none] [])
(.df (.eqr true 22 [(.i .i64),(.i .i64),(.i .i64),(.i .i64),(.i .i64),(.i .i64),(.i .i64),(.i .i64),(.i .i64),(.i .i64),(.i .i64),(.i .i64),(.i .i64),(.i .i64),(.i .i64),(.i .i64),(.i .i64),(.i .i64),(.i .i64),(.i .i64),(.i .i64),(.i .i64)]) ([(.i 7),(.q 2),(.i 0),(.q 4),(.q 5),(.i 0),(.q 7),(.q 8),(.i 0),(.i 0),(.i 0),(.i 0),(.i 0),(.i 0),(.i 0),(.i 0),(.i 0),(.i 0),(.i 0),(.i 0),(.i 0),(.i 0),(.i 7)]++SX.Z 2 21) .one
(.br 25 []
(.ret (.t [(.k (.slice none 0 0)),(.i 360)]) (List.replicate 13 none) [])
(.df (.bin .geq 3) [(.q 2),(.i 0)] .one
(.br 26 []
(.df (.bin .leq 3) [(.q 2),(.i 64)] .one
(.br 27 []
(.df (.bin .geq 3) [(.q 4),(.i 0)] .one
(.br 28 []
(.df (.bin .leq 3) [(.q 4),(.q 5)] .one
(.br 29 []
(.df (.bin .leq 3) [(.q 5),(.i 4095)] .one
(.br 30 []
(.df (.call 79 [.no]) [(.a [(.q 7),(.q 8)])] .one
(.df (.bin .eql 31) [(.q 31),(.i 0)] .one
(.br 32 []
(.df (.bin .gtr 3) [(.q 7),(.i 0)] .one
(.br 33 []
(.df (.bin .leq 3) [(.q 7),(.q 8)] .one
(.df .not [(.q 34)] .one
(.br 35 []
(.ret (.t [(.k (.slice none 0 0)),(.i 360)]) (List.replicate 16 none) [])
(.df (.len false) [(.q 0)] .one
(.loop [(.i 0),(.cat [])] [.one,.any]
(.df (.bin .lss 3) [(.q 37),(.q 36)] .one
(.br 39 []
(.df .bnd [(.q 0),(.q 37)] .one
(.df (.elems 14 0 14) [(.q 0),(.q 37)] (.ag 14)
(.df (.bin .geq 3) [(.x 41 [2]),(.q 4)] .one
(.br 42 []
(.df (.bin .leq 3) [(.x 41 [2]),(.q 5)] .one
(.br 43 []
(.df (.bin .eql 3) [(.q 2),(.i 0)] .one
(.br 44 []
(.df (.call 23 [.no,.no]) [(.a [(.x 41 [10]),(.x 41 [11])]),(.a [(.q 7),(.q 8)])] (.tp [(.ag 2),.one])
(.df (.call 23 [.no,.no]) [(.a [(.x 41 [12]),(.x 41 [13])]),(.a [(.q 7),(.q 8)])] (.tp [(.ag 2),.one])
(.df (.bin .eql 31) [(.x 45 [1]),(.i 0)] .one
(.br 47 []
(.df (.bin .eql 31) [(.x 46 [1]),(.i 0)] .one
(.df .not [(.q 48)] .one
(.br 49 []
(.ret (.t [(.k (.slice none 0 0)),(.i 360)]) (List.replicate 60 none) [])
(.df (.app 14 112 (.own 14 [(.x 41 [0]),(.x 41 [1]),(.x 41 [2]),(.x 41 [3]),(.x 41 [4]),(.x 41 [5]),(.x 41 [6]),(.x 41 [7]),(.x 41 [8]),(.x 41 [9]),(.x 45 [0,0]),(.x 45 [0,1]),(.x 46 [0,0]),(.x 46 [0,1])])) [(.cat [(.q 38)]),(.sl 60 0 1 1)] .any
(.df (.bin .add 3) [(.q 37),(.i 1)] .one
(.again 0 [(.q 51),(.cat [(.q 38),(.q 50)])]))))))
(.ret (.t [(.k (.slice none 0 0)),(.i 360)]) (List.replicate 60 none) [])))))
(.df (.bin .sub 3) [(.q 2),(.i 1)] .one
(.df (.bin .eql 3) [(.x 41 [1]),(.q 45)] .one
(.br 46 []
(.df (.call 23 [.no,.no]) [(.a [(.x 41 [10]),(.x 41 [11])]),(.a [(.q 7),(.q 8)])] (.tp [(.ag 2),.one])
(.df (.call 23 [.no,.no]) [(.a [(.x 41 [12]),(.x 41 [13])]),(.a [(.q 7),(.q 8)])] (.tp [(.ag 2),.one])
(.df (.bin .eql 31) [(.x 47 [1]),(.i 0)] .one
(.br 49 []
(.df (.bin .eql 31) [(.x 48 [1]),(.i 0)] .one
(.df .not [(.q 50)] .one
(.br 51 []
(.ret (.t [(.k (.slice none 0 0)),(.i 360)]) (List.replicate 60 none) [])
(.df (.app 14 112 (.own 14 [(.x 41 [0]),(.x 41 [1]),(.x 41 [2]),(.x 41 [3]),(.x 41 [4]),(.x 41 [5]),(.x 41 [6]),(.x 41 [7]),(.x 41 [8]),(.x 41 [9]),(.x 47 [0,0]),(.x 47 [0,1]),(.x 48 [0,0]),(.x 48 [0,1])])) [(.cat [(.q 38)]),(.sl 60 0 1 1)] .any
(.df (.bin .add 3) [(.q 37),(.i 1)] .one
(.again 0 [(.q 53),(.cat [(.q 38),(.q 52)])]))))))
(.ret (.t [(.k (.slice none 0 0)),(.i 360)]) (List.replicate 60 none) [])))))
(.df (.app 14 112 (.own 14 (SX.Y 41 0 14))) [(.cat [(.q 38)]),(.sl 24 0 1 1)] .any
(.df (.bin .add 3) [(.q 37),(.i 1)] .one
(.again 0 [(.q 48),(.cat [(.q 38),(.q 47)])]))))))))
(.df (.app 14 112 (.own 14 (SX.Y 41 0 14))) [(.cat [(.q 38)]),(.sl 24 0 1 1)] .any
(.df (.bin .add 3) [(.q 37),(.i 1)] .one
(.again 0 [(.q 45),(.cat [(.q 38),(.q 44)])])))))
(.df (.app 14 112 (.own 14 (SX.Y 41 0 14))) [(.cat [(.q 38)]),(.sl 24 0 1 1)] .any
(.df (.bin .add 3) [(.q 37),(.i 1)] .one
(.again 0 [(.q 44),(.cat [(.q 38),(.q 43)])])))))))
(.df (.call 14 [(.row 14 [(.q 38)])]) [(.row 21)] .one
(.df (.bin .neq 31) [(.q 40),(.i 0)] .one
(.br 41 []
(.ret (.t [(.k (.slice none 0 0)),(.q 40)]) (List.replicate 22 none) [])
(.ret (.t [(.row 21),(.i 0)]) (List.replicate 21 none++[(some ⟨[(.q 38)],26,(.row 14)⟩)]) [])))))))))))
(.ret (.t [(.k (.slice none 0 0)),(.i 360)]) (List.replicate 16 none) [])))
(.ret (.t [(.k (.slice none 0 0)),(.i 360)]) (List.replicate 16 none) []))))
(.ret (.t [(.k (.slice none 0 0)),(.i 360)]) (List.replicate 16 none) [])))
(.ret (.t [(.k (.slice none 0 0)),(.i 360)]) (List.replicate 16 none) [])))
(.ret (.t [(.k (.slice none 0 0)),(.i 360)]) (List.replicate 16 none) [])))
(.ret (.t [(.k (.slice none 0 0)),(.i 360)]) (List.replicate 15 none) [])))
(.ret (.t [(.k (.slice none 0 0)),(.i 360)]) (List.replicate 15 none) []))))))))
def args_e7:List SX.V:=[.x 0 [],.a ([.k (.int .i64 7)]++(List.range 21).map fun j=>.x (2+j) [])]
set_option maxRecDepth 100000 in
theorem run_e7(K A:Value→Nat→List Value→Prop):(SX.run (cxE2 K A) ⟨fun _=>true,[⟨12,13,[(.s 51,.one),(.s 4,.row 14 26)]⟩],2,100⟩ 100000 0 (SX.door 12 Try.f12 args_e7 (List.replicate 23 .one)) [.code (Try.f12.body.getD .skip),.top Try.f12]).strip=tree_e7:=by kernel_rfl
set_option maxRecDepth 100000 in
set_option maxHeartbeats 4000000 in
theorem e7_any(ss:List Sg)(A:Option Addr)(n c:Nat)(role other fr to m sn sd:Int)(sg:Sg)(w:World)(hr:Rd w 14 A n (sgsL ss))(hn:n≤9223372036854775807)(hc:n≤c):Calls Try.prog 12 #[.slice A n c,valE (⟨7,role,other,fr,to,m,sn,sd,sg⟩:Ed)] w fun e w'=>Below w.heap.size w w'∧∃ hdr,e=.returned (.tuple #[hdr,.int .i64 (applyE (⟨7,role,other,fr,to,m,sn,sd,sg⟩:Ed) ss).2])∧SX.SlRet w w' [] hdr 14 (sgsL (applyE (⟨7,role,other,fr,to,m,sn,sd,sg⟩:Ed) ss).1):=by
 refine SX.calls_of_run (C:=cxE2 (fun s sz cells=>s=.slice A n c∧sz=14∧cells=sgsL ss) (fun _ _ _=>False)) (G:=⟨fun _=>true,[⟨12,13,[(.s 51,.one),(.s 4,.row 14 26)]⟩],2,100⟩) (args:=args_e7) (sh:=(List.replicate 23 .one)) (ρ:=([.slice A n c]++cellsE (⟨7,role,other,fr,to,m,sn,sd,sg⟩:Ed))) 100000 tree_e7 (okE2 _ _) Try.func12 rfl (run_e7 _ _) (by kernel_rfl) (by kernel_rfl) (by kernel_rfl) ?_ ?_
 ·rintro W hW s sz cells ⟨rfl,rfl,rfl⟩;exact⟨hr.same0 hW,hc⟩
 have hA:=SX.rd_some hr
 have hln:ss.length=n:=by have:=hr.1;rw [sgsL_len]at this;omega
 have k1:(fun s sz cells=>s=.slice A n c∧sz=14∧cells=sgsL ss) (Value.slice A n c) 14 (sgsL ss):=⟨rfl,rfl,rfl⟩
 have hu:usesE (⟨7,role,other,fr,to,m,sn,sd,sg⟩:Ed)=(⟨7,role,0,fr,to,0,sn,sd,zeroSg⟩:Ed):=by unfold usesE;rw [if_neg (by show ¬ ((7:Int)=1);decide),if_neg (by show ¬ ((7:Int)=2);decide),if_neg (by show ¬ ((7:Int)=3);decide),if_neg (by show ¬ ((7:Int)=4);decide),if_neg (by show ¬ ((7:Int)=5);decide),if_neg (by show ¬ ((7:Int)=6);decide)]
 have hrt:rightE (⟨7,role,other,fr,to,m,sn,sd,sg⟩:Ed)↔(0≤role∧role≤64∧0≤fr∧fr≤to∧to≤4095)∧okR sn sd∧0<sn∧sn≤sd:=by unfold rightE;rw [if_neg (by show ¬ ((7:Int)=1);decide),if_neg (by show ¬ ((7:Int)=2);decide),if_neg (by show ¬ ((7:Int)=3);decide),if_neg (by show ¬ ((7:Int)=4);decide),if_neg (by show ¬ ((7:Int)=5);decide),if_neg (by show ¬ ((7:Int)=6);decide)];try simp only [roleE,barsE]
 have hwk:∀ z:Sg,workE (⟨7,role,other,fr,to,m,sn,sd,sg⟩:Ed) z=(if(fr≤z.bar∧z.bar≤to∧(role=0∨z.role=role-1))then(if(mulS z.fn z.fd sn sd).2.2=0∧(mulS z.tn z.td sn sd).2.2=0 then some [{ z with fn:=(mulS z.fn z.fd sn sd).1,fd:=(mulS z.fn z.fd sn sd).2.1,tn:=(mulS z.tn z.td sn sd).1,td:=(mulS z.tn z.td sn sd).2.1 }]else none)else some [z]):=fun z=>by unfold workE;rw [if_neg (by show ¬ ((7:Int)=1);decide),if_neg (by show ¬ ((7:Int)=2);decide),if_neg (by show ¬ ((7:Int)=3);decide),if_neg (by show ¬ ((7:Int)=4);decide),if_neg (by show ¬ ((7:Int)=6);decide),if_pos rfl]
 unfold tree_e7
 refine SX.E (.int .i64 ((chkS ss))) (fun α=>⟨[⟨.slice A n c,14,sgsL ss⟩],⟨by kernel_rfl,rfl,cast (by kernel_rfl) k1,trivial⟩,.inl ⟨rfl,.slice A n c,ss,rfl,by omega,rfl⟩,SX.noAli rfl⟩) ?_
 refine SX.D (.bool (((chkS ss):Int) != 0)) ?_
 refine SX.B (((chkS ss):Int) != 0) (fun h24=>?_) (fun h24=>?_)
 ·try simp only [NRM]at h24
  have hfact:applyE (⟨7,role,other,fr,to,m,sn,sd,sg⟩:Ed) ss=([],chkS ss):=applyE_chk h24
  exact SX.VC_ret fun α W _ hR hS=>⟨hS.below,(.slice none 0 0),Eq.trans (b:=Ending.returned (.tuple #[(.slice none 0 0),.int .i64 ((chkS ss))])) (by kernel_rfl) (by rw [hfact]),(by rw [hfact];exact SX.SlRet.nil)⟩
 try simp only [NRM]at h24
 refine SX.E (.bool (true ^^ decide ((⟨7,role,0,fr,to,0,sn,sd,zeroSg⟩:Ed)=(⟨7,role,other,fr,to,m,sn,sd,sg⟩:Ed)))) (fun α=>SX.eqr_rel (f:=cellsE) cellsE_inj (y:=(⟨7,role,0,fr,to,0,sn,sd,zeroSg⟩:Ed)) (z:=(⟨7,role,other,fr,to,m,sn,sd,sg⟩:Ed)) (by kernel_rfl) (by kernel_rfl) (by kernel_rfl)) ?_
 refine SX.B (true ^^ decide ((⟨7,role,0,fr,to,0,sn,sd,zeroSg⟩:Ed)=(⟨7,role,other,fr,to,m,sn,sd,sg⟩:Ed))) (fun h25=>?_) (fun h25=>?_)
 ·try simp only [NRM]at h25
  have hfact:applyE (⟨7,role,other,fr,to,m,sn,sd,sg⟩:Ed) ss=([],360):=applyE_no h24 (fun hk=>by first|exact h25 (by rw [← hu];exact hk.2.2.1)|(have:=hrt.1 hk.2.2.2;omega)|(have:=hrt.1 hk.2.2.2;have:=okR_iff2.2 this.2.1;omega))
  exact SX.VC_ret fun α W _ hR hS=>⟨hS.below,(.slice none 0 0),Eq.trans (b:=Ending.returned (.tuple #[(.slice none 0 0),.int .i64 360])) (by kernel_rfl) (by rw [hfact]),(by rw [hfact];exact SX.SlRet.nil)⟩
 try simp only [NRM]at h25
 refine SX.D (.bool (decide (role≥0))) ?_
 refine SX.B (decide (role≥0)) (fun h26=>?_) (fun h26=>?_)
 ·try simp only [NRM]at h26
  refine SX.D (.bool (decide (role≤64))) ?_
  refine SX.B (decide (role≤64)) (fun h27=>?_) (fun h27=>?_)
  ·try simp only [NRM]at h27
   refine SX.D (.bool (decide (fr≥0))) ?_
   refine SX.B (decide (fr≥0)) (fun h28=>?_) (fun h28=>?_)
   ·try simp only [NRM]at h28
    refine SX.D (.bool (decide (fr≤to))) ?_
    refine SX.B (decide (fr≤to)) (fun h29=>?_) (fun h29=>?_)
    ·try simp only [NRM]at h29
     refine SX.D (.bool (decide (to≤4095))) ?_
     refine SX.B (decide (to≤4095)) (fun h30=>?_) (fun h30=>?_)
     ·try simp only [NRM]at h30
      refine SX.E (.int .i64 ((if okR sn sd then 0 else 120))) (fun α=>⟨[⟨.agg #[.int .i64 sn,.int .i64 sd],0,[]⟩],⟨by kernel_rfl,by kernel_rfl,trivial⟩,.inr (.inl ⟨rfl,_,_,rfl,rfl⟩),SX.noAli rfl⟩) ?_
      refine SX.D (.bool (((if okR sn sd then 0 else 120):Int) == 0)) ?_
      refine SX.B (((if okR sn sd then 0 else 120):Int) == 0) (fun h32=>?_) (fun h32=>?_)
      ·try simp only [NRM]at h32
       refine SX.D (.bool (decide (sn>0))) ?_
       refine SX.B (decide (sn>0)) (fun h33=>?_) (fun h33=>?_)
       ·try simp only [NRM]at h33
        refine SX.D (.bool (decide (sn≤sd))) ?_
        refine SX.D (.bool (!(decide (sn≤sd)))) ?_
        refine SX.B (!(decide (sn≤sd))) (fun h35=>?_) (fun h35=>?_)
        ·try simp only [NRM]at h35
         have hfact:applyE (⟨7,role,other,fr,to,m,sn,sd,sg⟩:Ed) ss=([],360):=applyE_no h24 (fun hk=>by first|exact h25 (by rw [← hu];exact hk.2.2.1)|(have:=hrt.1 hk.2.2.2;omega)|(have:=hrt.1 hk.2.2.2;have:=okR_iff2.2 this.2.1;omega))
         exact SX.VC_ret fun α W _ hR hS=>⟨hS.below,(.slice none 0 0),Eq.trans (b:=Ending.returned (.tuple #[(.slice none 0 0),.int .i64 360])) (by kernel_rfl) (by rw [hfact]),(by rw [hfact];exact SX.SlRet.nil)⟩
        try simp only [NRM]at h35
        refine SX.D (.int .i64 (((n:Nat):Int))) ?_
        have hok:okE (⟨7,role,other,fr,to,m,sn,sd,sg⟩:Ed):=⟨by show(1:Int)≤7;decide,by show(7:Int)≤7;decide,hu.trans h25,hrt.2 (by first|omega|(refine⟨by omega,?_⟩;exact⟨okR_iff2.1 (by assumption),by omega,by omega⟩))⟩
        obtain⟨hss,hs4⟩:=chkS_ok h24
        refine SX.VC_loop (fun xs=>∃ (i:Nat) (cur:List Sg),xs=[.int .i64 (i:Int),.agg (sgsL cur).toArray]∧i≤n∧accE (⟨7,role,other,fr,to,m,sn,sd,sg⟩:Ed) (ss.take i)=some cur) (fun xs=>match xs with|[.int _ i,_]=>n-i.toNat|_=>0) (fun α=>⟨0,[],by kernel_rfl,by omega,rfl⟩) ?_
        rintro xs-⟨i,cur,rfl,hin,hacc⟩
        have hcl:=acc_len hacc
        refine SX.D (.bool (decide (((i:Nat):Int)<((n:Nat):Int)))) ?_
        refine SX.B (decide (((i:Nat):Int)<((n:Nat):Int))) (fun h39=>?_) (fun h39=>?_)
        ·try simp only [NRM]at h39
         obtain⟨z,hz⟩:∃ z,ss[i]?=some z:=⟨_,List.getElem?_eq_getElem (by omega)⟩
         have zb:=hss.1 z (List.mem_of_getElem? hz)
         rw [Sg.ok_iff]at zb
         obtain⟨⟨z1,z2⟩,⟨z3,z4⟩,⟨z5,z6⟩,⟨z7,z8⟩,⟨z9,z10⟩,⟨z11,z12⟩,⟨z13,z14⟩,⟨z15,z16⟩,⟨z17,z18⟩,⟨z19,z20⟩,z21⟩:=zb
         refine SX.E (.bool true) (fun α=>SX.extBnd (A:=A) (n:=n) (c:=c) (j:=i) hA (by kernel_rfl) (by kernel_rfl) (by omega)) ?_
         refine SX.E (.agg (cellsSg z).toArray) (fun α=>SX.extElems (f:=cellsSg) (l:=ss) (A:=A) (n:=n) (c:=c) (j:=i) (z:=z) (fun _=>rfl) hA (by kernel_rfl) (by kernel_rfl) (by omega) (cast (by kernel_rfl) k1) hz) ?_
         refine SX.D (.bool (decide (z.bar≥fr))) ?_
         refine SX.B (decide (z.bar≥fr)) (fun h42=>?_) (fun h42=>?_)
         ·try simp only [NRM]at h42
          refine SX.D (.bool (decide (z.bar≤to))) ?_
          refine SX.B (decide (z.bar≤to)) (fun h43=>?_) (fun h43=>?_)
          ·try simp only [NRM]at h43
           refine SX.D (.bool ((role:Int) == 0)) ?_
           refine SX.B ((role:Int) == 0) (fun h44=>?_) (fun h44=>?_)
           ·try simp only [NRM]at h44
            refine SX.E (.tuple #[.agg #[.int .i64 ((mulS z.fn z.fd sn sd).1),.int .i64 ((mulS z.fn z.fd sn sd).2.1)],.int .i64 ((mulS z.fn z.fd sn sd).2.2)]) (fun α=>⟨[⟨.agg #[.int .i64 z.fn,.int .i64 z.fd],0,[]⟩,⟨.agg #[.int .i64 sn,.int .i64 sd],0,[]⟩],⟨by kernel_rfl,by kernel_rfl,by kernel_rfl,by kernel_rfl,trivial⟩,.inr (.inr (⟨rfl,_,_,_,_,rfl,rfl⟩)),SX.noAli rfl⟩) ?_
            refine SX.E (.tuple #[.agg #[.int .i64 ((mulS z.tn z.td sn sd).1),.int .i64 ((mulS z.tn z.td sn sd).2.1)],.int .i64 ((mulS z.tn z.td sn sd).2.2)]) (fun α=>⟨[⟨.agg #[.int .i64 z.tn,.int .i64 z.td],0,[]⟩,⟨.agg #[.int .i64 sn,.int .i64 sd],0,[]⟩],⟨by kernel_rfl,by kernel_rfl,by kernel_rfl,by kernel_rfl,trivial⟩,.inr (.inr (⟨rfl,_,_,_,_,rfl,rfl⟩)),SX.noAli rfl⟩) ?_
            refine SX.D (.bool (((mulS z.fn z.fd sn sd).2.2:Int) == 0)) ?_
            refine SX.B (((mulS z.fn z.fd sn sd).2.2:Int) == 0) (fun h47=>?_) (fun h47=>?_)
            ·try simp only [NRM]at h47
             refine SX.D (.bool (((mulS z.tn z.td sn sd).2.2:Int) == 0)) ?_
             refine SX.D (.bool (!(((mulS z.tn z.td sn sd).2.2:Int) == 0))) ?_
             refine SX.B (!(((mulS z.tn z.td sn sd).2.2:Int) == 0)) (fun h49=>?_) (fun h49=>?_)
             ·try simp only [NRM]at h49
              have hfact:applyE (⟨7,role,other,fr,to,m,sn,sd,sg⟩:Ed) ss=([],360):=applyE_fail h24 hok (acc_fail hz hacc (by rw [hwk];(try simp only [mirrorS,swapN]);(repeat' split)<;>first|rfl|(exfalso;omega)))
              exact SX.VC_ret fun α W _ hR hS=>⟨hS.below,(.slice none 0 0),Eq.trans (b:=Ending.returned (.tuple #[(.slice none 0 0),.int .i64 360])) (by kernel_rfl) (by rw [hfact]),(by rw [hfact];exact SX.SlRet.nil)⟩
             try simp only [NRM]at h49
             refine SX.E (Value.agg (([(⟨z.id,z.role,z.bar,z.mark,z.kind,z.side,z.dir,z.level,z.size,z.with_,(mulS z.fn z.fd sn sd).1,(mulS z.fn z.fd sn sd).2.1,(mulS z.tn z.td sn sd).1,(mulS z.tn z.td sn sd).2.1⟩:Sg)]).flatMap cellsSg).toArray) (fun α=>SX.app_rel (f:=cellsSg) (l1:=cur) (l2:=[(⟨z.id,z.role,z.bar,z.mark,z.kind,z.side,z.dir,z.level,z.size,z.with_,(mulS z.fn z.fd sn sd).1,(mulS z.fn z.fd sn sd).2.1,(mulS z.tn z.td sn sd).1,(mulS z.tn z.td sn sd).2.1⟩:Sg)]) (fun _=>rfl) cellsSg_one (by decide) (SX.cat1 (by kernel_rfl)) (SX.src_own (by kernel_rfl)) (by simp only [LL];omega) (by simp only [LL];omega)) ?_
             refine SX.E (.int .i64 (((i+1:Nat):Int))) (fun α=>SX.W1 i) ?_
             exact SX.VC_again fun α=>⟨⟨i+1,cur++[(⟨z.id,z.role,z.bar,z.mark,z.kind,z.side,z.dir,z.level,z.size,z.with_,(mulS z.fn z.fd sn sd).1,(mulS z.fn z.fd sn sd).2.1,(mulS z.tn z.td sn sd).1,(mulS z.tn z.td sn sd).2.1⟩:Sg)],Eq.trans (b:=[.int .i64 ((i+1:Nat):Int),.agg ([Value.agg (sgsL cur).toArray,Value.agg (([(⟨z.id,z.role,z.bar,z.mark,z.kind,z.side,z.dir,z.level,z.size,z.with_,(mulS z.fn z.fd sn sd).1,(mulS z.fn z.fd sn sd).2.1,(mulS z.tn z.td sn sd).1,(mulS z.tn z.td sn sd).2.1⟩:Sg)]).flatMap cellsSg).toArray].flatMap SX.cellsV).toArray]) (by kernel_rfl) (by simp [SX.cellsV,sgsL]),by omega,acc_step hz hacc (by rw [hwk];(try simp only [mirrorS,swapN]);(repeat' split)<;>first|rfl|(exfalso;omega))⟩,cast (by kernel_rfl) (show n-((i+1:Nat):Int).toNat<n-(i:Int).toNat by omega)⟩
            try simp only [NRM]at h47
            have hfact:applyE (⟨7,role,other,fr,to,m,sn,sd,sg⟩:Ed) ss=([],360):=applyE_fail h24 hok (acc_fail hz hacc (by rw [hwk];(try simp only [mirrorS,swapN]);(repeat' split)<;>first|rfl|(exfalso;omega)))
            exact SX.VC_ret fun α W _ hR hS=>⟨hS.below,(.slice none 0 0),Eq.trans (b:=Ending.returned (.tuple #[(.slice none 0 0),.int .i64 360])) (by kernel_rfl) (by rw [hfact]),(by rw [hfact];exact SX.SlRet.nil)⟩
           try simp only [NRM]at h44
           refine SX.E (.int .i64 (role-1)) (fun α=>SX.W (role-1)) ?_
           refine SX.D (.bool ((z.role:Int) == role-1)) ?_
           refine SX.B ((z.role:Int) == role-1) (fun h46=>?_) (fun h46=>?_)
           ·try simp only [NRM]at h46
            refine SX.E (.tuple #[.agg #[.int .i64 ((mulS z.fn z.fd sn sd).1),.int .i64 ((mulS z.fn z.fd sn sd).2.1)],.int .i64 ((mulS z.fn z.fd sn sd).2.2)]) (fun α=>⟨[⟨.agg #[.int .i64 z.fn,.int .i64 z.fd],0,[]⟩,⟨.agg #[.int .i64 sn,.int .i64 sd],0,[]⟩],⟨by kernel_rfl,by kernel_rfl,by kernel_rfl,by kernel_rfl,trivial⟩,.inr (.inr (⟨rfl,_,_,_,_,rfl,rfl⟩)),SX.noAli rfl⟩) ?_
            refine SX.E (.tuple #[.agg #[.int .i64 ((mulS z.tn z.td sn sd).1),.int .i64 ((mulS z.tn z.td sn sd).2.1)],.int .i64 ((mulS z.tn z.td sn sd).2.2)]) (fun α=>⟨[⟨.agg #[.int .i64 z.tn,.int .i64 z.td],0,[]⟩,⟨.agg #[.int .i64 sn,.int .i64 sd],0,[]⟩],⟨by kernel_rfl,by kernel_rfl,by kernel_rfl,by kernel_rfl,trivial⟩,.inr (.inr (⟨rfl,_,_,_,_,rfl,rfl⟩)),SX.noAli rfl⟩) ?_
            refine SX.D (.bool (((mulS z.fn z.fd sn sd).2.2:Int) == 0)) ?_
            refine SX.B (((mulS z.fn z.fd sn sd).2.2:Int) == 0) (fun h49=>?_) (fun h49=>?_)
            ·try simp only [NRM]at h49
             refine SX.D (.bool (((mulS z.tn z.td sn sd).2.2:Int) == 0)) ?_
             refine SX.D (.bool (!(((mulS z.tn z.td sn sd).2.2:Int) == 0))) ?_
             refine SX.B (!(((mulS z.tn z.td sn sd).2.2:Int) == 0)) (fun h51=>?_) (fun h51=>?_)
             ·try simp only [NRM]at h51
              have hfact:applyE (⟨7,role,other,fr,to,m,sn,sd,sg⟩:Ed) ss=([],360):=applyE_fail h24 hok (acc_fail hz hacc (by rw [hwk];(try simp only [mirrorS,swapN]);(repeat' split)<;>first|rfl|(exfalso;omega)))
              exact SX.VC_ret fun α W _ hR hS=>⟨hS.below,(.slice none 0 0),Eq.trans (b:=Ending.returned (.tuple #[(.slice none 0 0),.int .i64 360])) (by kernel_rfl) (by rw [hfact]),(by rw [hfact];exact SX.SlRet.nil)⟩
             try simp only [NRM]at h51
             refine SX.E (Value.agg (([(⟨z.id,z.role,z.bar,z.mark,z.kind,z.side,z.dir,z.level,z.size,z.with_,(mulS z.fn z.fd sn sd).1,(mulS z.fn z.fd sn sd).2.1,(mulS z.tn z.td sn sd).1,(mulS z.tn z.td sn sd).2.1⟩:Sg)]).flatMap cellsSg).toArray) (fun α=>SX.app_rel (f:=cellsSg) (l1:=cur) (l2:=[(⟨z.id,z.role,z.bar,z.mark,z.kind,z.side,z.dir,z.level,z.size,z.with_,(mulS z.fn z.fd sn sd).1,(mulS z.fn z.fd sn sd).2.1,(mulS z.tn z.td sn sd).1,(mulS z.tn z.td sn sd).2.1⟩:Sg)]) (fun _=>rfl) cellsSg_one (by decide) (SX.cat1 (by kernel_rfl)) (SX.src_own (by kernel_rfl)) (by simp only [LL];omega) (by simp only [LL];omega)) ?_
             refine SX.E (.int .i64 (((i+1:Nat):Int))) (fun α=>SX.W1 i) ?_
             exact SX.VC_again fun α=>⟨⟨i+1,cur++[(⟨z.id,z.role,z.bar,z.mark,z.kind,z.side,z.dir,z.level,z.size,z.with_,(mulS z.fn z.fd sn sd).1,(mulS z.fn z.fd sn sd).2.1,(mulS z.tn z.td sn sd).1,(mulS z.tn z.td sn sd).2.1⟩:Sg)],Eq.trans (b:=[.int .i64 ((i+1:Nat):Int),.agg ([Value.agg (sgsL cur).toArray,Value.agg (([(⟨z.id,z.role,z.bar,z.mark,z.kind,z.side,z.dir,z.level,z.size,z.with_,(mulS z.fn z.fd sn sd).1,(mulS z.fn z.fd sn sd).2.1,(mulS z.tn z.td sn sd).1,(mulS z.tn z.td sn sd).2.1⟩:Sg)]).flatMap cellsSg).toArray].flatMap SX.cellsV).toArray]) (by kernel_rfl) (by simp [SX.cellsV,sgsL]),by omega,acc_step hz hacc (by rw [hwk];(try simp only [mirrorS,swapN]);(repeat' split)<;>first|rfl|(exfalso;omega))⟩,cast (by kernel_rfl) (show n-((i+1:Nat):Int).toNat<n-(i:Int).toNat by omega)⟩
            try simp only [NRM]at h49
            have hfact:applyE (⟨7,role,other,fr,to,m,sn,sd,sg⟩:Ed) ss=([],360):=applyE_fail h24 hok (acc_fail hz hacc (by rw [hwk];(try simp only [mirrorS,swapN]);(repeat' split)<;>first|rfl|(exfalso;omega)))
            exact SX.VC_ret fun α W _ hR hS=>⟨hS.below,(.slice none 0 0),Eq.trans (b:=Ending.returned (.tuple #[(.slice none 0 0),.int .i64 360])) (by kernel_rfl) (by rw [hfact]),(by rw [hfact];exact SX.SlRet.nil)⟩
           try simp only [NRM]at h46
           refine SX.E (Value.agg (([z]).flatMap cellsSg).toArray) (fun α=>SX.app_rel (f:=cellsSg) (l1:=cur) (l2:=[z]) (fun _=>rfl) cellsSg_one (by decide) (SX.cat1 (by kernel_rfl)) (SX.src_own (by kernel_rfl)) (by simp only [LL];omega) (by simp only [LL];omega)) ?_
           refine SX.E (.int .i64 (((i+1:Nat):Int))) (fun α=>SX.W1 i) ?_
           exact SX.VC_again fun α=>⟨⟨i+1,cur++[z],Eq.trans (b:=[.int .i64 ((i+1:Nat):Int),.agg ([Value.agg (sgsL cur).toArray,Value.agg (([z]).flatMap cellsSg).toArray].flatMap SX.cellsV).toArray]) (by kernel_rfl) (by simp [SX.cellsV,sgsL]),by omega,acc_step hz hacc (by rw [hwk];(try simp only [mirrorS,swapN]);(repeat' split)<;>first|rfl|(exfalso;omega))⟩,cast (by kernel_rfl) (show n-((i+1:Nat):Int).toNat<n-(i:Int).toNat by omega)⟩
          try simp only [NRM]at h43
          refine SX.E (Value.agg (([z]).flatMap cellsSg).toArray) (fun α=>SX.app_rel (f:=cellsSg) (l1:=cur) (l2:=[z]) (fun _=>rfl) cellsSg_one (by decide) (SX.cat1 (by kernel_rfl)) (SX.src_own (by kernel_rfl)) (by simp only [LL];omega) (by simp only [LL];omega)) ?_
          refine SX.E (.int .i64 (((i+1:Nat):Int))) (fun α=>SX.W1 i) ?_
          exact SX.VC_again fun α=>⟨⟨i+1,cur++[z],Eq.trans (b:=[.int .i64 ((i+1:Nat):Int),.agg ([Value.agg (sgsL cur).toArray,Value.agg (([z]).flatMap cellsSg).toArray].flatMap SX.cellsV).toArray]) (by kernel_rfl) (by simp [SX.cellsV,sgsL]),by omega,acc_step hz hacc (by rw [hwk];(try simp only [mirrorS,swapN]);(repeat' split)<;>first|rfl|(exfalso;omega))⟩,cast (by kernel_rfl) (show n-((i+1:Nat):Int).toNat<n-(i:Int).toNat by omega)⟩
         try simp only [NRM]at h42
         refine SX.E (Value.agg (([z]).flatMap cellsSg).toArray) (fun α=>SX.app_rel (f:=cellsSg) (l1:=cur) (l2:=[z]) (fun _=>rfl) cellsSg_one (by decide) (SX.cat1 (by kernel_rfl)) (SX.src_own (by kernel_rfl)) (by simp only [LL];omega) (by simp only [LL];omega)) ?_
         refine SX.E (.int .i64 (((i+1:Nat):Int))) (fun α=>SX.W1 i) ?_
         exact SX.VC_again fun α=>⟨⟨i+1,cur++[z],Eq.trans (b:=[.int .i64 ((i+1:Nat):Int),.agg ([Value.agg (sgsL cur).toArray,Value.agg (([z]).flatMap cellsSg).toArray].flatMap SX.cellsV).toArray]) (by kernel_rfl) (by simp [SX.cellsV,sgsL]),by omega,acc_step hz hacc (by rw [hwk];(try simp only [mirrorS,swapN]);(repeat' split)<;>first|rfl|(exfalso;omega))⟩,cast (by kernel_rfl) (show n-((i+1:Nat):Int).toNat<n-(i:Int).toNat by omega)⟩
        try simp only [NRM]at h39
        refine SX.E (.int .i64 ((chkS cur))) (fun α=>⟨[⟨(α 21).h,14,sgsL cur⟩],⟨Eq.trans (b:=(⟨(α 21).h,14,[Value.agg (sgsL cur).toArray].flatMap SX.cellsV⟩:SX.Arg)) (by simp [SX.cellsV]) (by kernel_rfl),trivial⟩,.inl ⟨rfl,_,cur,rfl,by omega,rfl⟩,SX.noAli rfl⟩) ?_
        refine SX.D (.bool (((chkS cur):Int) != 0)) ?_
        refine SX.B (((chkS cur):Int) != 0) (fun h41=>?_) (fun h41=>?_)
        ·try simp only [NRM]at h41
         have hfact:applyE (⟨7,role,other,fr,to,m,sn,sd,sg⟩:Ed) ss=([],chkS cur):=applyE_out h24 hok (by rw [← hacc,List.take_of_length_le (by omega)]) (by assumption)
         exact SX.VC_ret fun α W _ hR hS=>⟨hS.below,(.slice none 0 0),Eq.trans (b:=Ending.returned (.tuple #[(.slice none 0 0),.int .i64 ((chkS cur))])) (by kernel_rfl) (by rw [hfact]),(by rw [hfact];exact SX.SlRet.nil)⟩
        try simp only [NRM]at h41
        have hfact:applyE (⟨7,role,other,fr,to,m,sn,sd,sg⟩:Ed) ss=(cur,0):=applyE_ok h24 hok (by rw [← hacc,List.take_of_length_le (by omega)]) (by omega)
        exact SX.VC_ret fun α W _ hR hS=>⟨hS.below,(α 21).h,Eq.trans (b:=Ending.returned (.tuple #[(α 21).h,.int .i64 0])) (by kernel_rfl) (by rw [hfact]),SX.SlRet.row hS (n:=21) (b:=(⟨[(.x 38 [])],26,(.row 14)⟩:SX.Blk)) (by kernel_rfl) rfl (hR 21 _ (by kernel_rfl)) (Eq.trans (b:=[Value.agg (sgsL cur).toArray].flatMap SX.cellsV) (by kernel_rfl) (by rw [hfact];simp [SX.cellsV]))⟩
       try simp only [NRM]at h33
       have hfact:applyE (⟨7,role,other,fr,to,m,sn,sd,sg⟩:Ed) ss=([],360):=applyE_no h24 (fun hk=>by first|exact h25 (by rw [← hu];exact hk.2.2.1)|(have:=hrt.1 hk.2.2.2;omega)|(have:=hrt.1 hk.2.2.2;have:=okR_iff2.2 this.2.1;omega))
       exact SX.VC_ret fun α W _ hR hS=>⟨hS.below,(.slice none 0 0),Eq.trans (b:=Ending.returned (.tuple #[(.slice none 0 0),.int .i64 360])) (by kernel_rfl) (by rw [hfact]),(by rw [hfact];exact SX.SlRet.nil)⟩
      try simp only [NRM]at h32
      have hfact:applyE (⟨7,role,other,fr,to,m,sn,sd,sg⟩:Ed) ss=([],360):=applyE_no h24 (fun hk=>by first|exact h25 (by rw [← hu];exact hk.2.2.1)|(have:=hrt.1 hk.2.2.2;omega)|(have:=hrt.1 hk.2.2.2;have:=okR_iff2.2 this.2.1;omega))
      exact SX.VC_ret fun α W _ hR hS=>⟨hS.below,(.slice none 0 0),Eq.trans (b:=Ending.returned (.tuple #[(.slice none 0 0),.int .i64 360])) (by kernel_rfl) (by rw [hfact]),(by rw [hfact];exact SX.SlRet.nil)⟩
     try simp only [NRM]at h30
     have hfact:applyE (⟨7,role,other,fr,to,m,sn,sd,sg⟩:Ed) ss=([],360):=applyE_no h24 (fun hk=>by first|exact h25 (by rw [← hu];exact hk.2.2.1)|(have:=hrt.1 hk.2.2.2;omega)|(have:=hrt.1 hk.2.2.2;have:=okR_iff2.2 this.2.1;omega))
     exact SX.VC_ret fun α W _ hR hS=>⟨hS.below,(.slice none 0 0),Eq.trans (b:=Ending.returned (.tuple #[(.slice none 0 0),.int .i64 360])) (by kernel_rfl) (by rw [hfact]),(by rw [hfact];exact SX.SlRet.nil)⟩
    try simp only [NRM]at h29
    have hfact:applyE (⟨7,role,other,fr,to,m,sn,sd,sg⟩:Ed) ss=([],360):=applyE_no h24 (fun hk=>by first|exact h25 (by rw [← hu];exact hk.2.2.1)|(have:=hrt.1 hk.2.2.2;omega)|(have:=hrt.1 hk.2.2.2;have:=okR_iff2.2 this.2.1;omega))
    exact SX.VC_ret fun α W _ hR hS=>⟨hS.below,(.slice none 0 0),Eq.trans (b:=Ending.returned (.tuple #[(.slice none 0 0),.int .i64 360])) (by kernel_rfl) (by rw [hfact]),(by rw [hfact];exact SX.SlRet.nil)⟩
   try simp only [NRM]at h28
   have hfact:applyE (⟨7,role,other,fr,to,m,sn,sd,sg⟩:Ed) ss=([],360):=applyE_no h24 (fun hk=>by first|exact h25 (by rw [← hu];exact hk.2.2.1)|(have:=hrt.1 hk.2.2.2;omega)|(have:=hrt.1 hk.2.2.2;have:=okR_iff2.2 this.2.1;omega))
   exact SX.VC_ret fun α W _ hR hS=>⟨hS.below,(.slice none 0 0),Eq.trans (b:=Ending.returned (.tuple #[(.slice none 0 0),.int .i64 360])) (by kernel_rfl) (by rw [hfact]),(by rw [hfact];exact SX.SlRet.nil)⟩
  try simp only [NRM]at h27
  have hfact:applyE (⟨7,role,other,fr,to,m,sn,sd,sg⟩:Ed) ss=([],360):=applyE_no h24 (fun hk=>by first|exact h25 (by rw [← hu];exact hk.2.2.1)|(have:=hrt.1 hk.2.2.2;omega)|(have:=hrt.1 hk.2.2.2;have:=okR_iff2.2 this.2.1;omega))
  exact SX.VC_ret fun α W _ hR hS=>⟨hS.below,(.slice none 0 0),Eq.trans (b:=Ending.returned (.tuple #[(.slice none 0 0),.int .i64 360])) (by kernel_rfl) (by rw [hfact]),(by rw [hfact];exact SX.SlRet.nil)⟩
 try simp only [NRM]at h26
 have hfact:applyE (⟨7,role,other,fr,to,m,sn,sd,sg⟩:Ed) ss=([],360):=applyE_no h24 (fun hk=>by first|exact h25 (by rw [← hu];exact hk.2.2.1)|(have:=hrt.1 hk.2.2.2;omega)|(have:=hrt.1 hk.2.2.2;have:=okR_iff2.2 this.2.1;omega))
 exact SX.VC_ret fun α W _ hR hS=>⟨hS.below,(.slice none 0 0),Eq.trans (b:=Ending.returned (.tuple #[(.slice none 0 0),.int .i64 360])) (by kernel_rfl) (by rw [hfact]),(by rw [hfact];exact SX.SlRet.nil)⟩
def RE3(f:FuncId)(xs:List SX.Arg)(v:Value):Prop :=
 (f=14∧∃ (u:Value) (ss:List Sg),xs=[⟨u,14,sgsL ss⟩]∧ss.length≤9223372036854775807∧v=.int .i64 (chkS ss)) ∨
 (f=79∧∃ n d:Int,xs=[⟨.agg #[.int .i64 n,.int .i64 d],0,[]⟩]∧v=.int .i64 (if okR n d then 0 else 120)) ∨
 (f=23∧∃ an ad bn bd:Int,xs=[⟨.agg #[.int .i64 an,.int .i64 ad],0,[]⟩,⟨.agg #[.int .i64 bn,.int .i64 bd],0,[]⟩]∧v=.tuple #[.agg #[.int .i64 (mulS an ad bn bd).1,.int .i64 (mulS an ad bn bd).2.1],.int .i64 (mulS an ad bn bd).2.2])
def shpE3:FuncId→Option SX.Sh:=fun f=>if f=14 then some .one else if f=79 then some .one else if f=23 then some (.tp [.ag 2,.one])else none
noncomputable def cxE3(K A:Value→Nat→List Value→Prop):SX.Cx:={ P:=Try.prog,R:=fun _=>RE3,shp:=shpE3,K:=K,A:=A,tl:=[57] }
theorem okE3(K A:Value→Nat→List Value→Prop):(cxE3 K A).Ok:=by
 refine SX.Cx.ok_of (fun _=>rfl) ?_
 intro K f xs v W hR hrd hKf
 rcases hR with ⟨rfl,u,ss,rfl,hl,rfl⟩|⟨rfl,n,d,rfl,rfl⟩|⟨rfl,an,ad,bn,bd,rfl,rfl⟩
 ·obtain⟨A,n,c,rfl,h2,h3,h4⟩:=sgs_arg (hrd ⟨u,14,sgsL ss⟩ (by simp))
  exact(echeck_any ss A n c W h2 (by omega) h3).mono fun e w' h=>SX.plainOk rfl h
 ·exact(rcheck_any n d W).mono fun e w' h=>SX.plainOk rfl h
 exact(mul_any an ad bn bd W).mono fun e w' h=>SX.plainOk rfl h
def tree_e6:SX.Tree :=
(.df (.call 14 [(.ext 14)]) [(.q 0)] .one
(.df (.bin .neq 31) [(.q 23),(.i 0)] .one
(.br 24 []
(.ret (.t [(.k (.slice none 0 0)),(.q 23)]) [none] [])
(.df (.eqr true 22 [(.i .i64),(.i .i64),(.i .i64),(.i .i64),(.i .i64),(.i .i64),(.i .i64),(.i .i64),(.i .i64),(.i .i64),(.i .i64),(.i .i64),(.i .i64),(.i .i64),(.i .i64),(.i .i64),(.i .i64),(.i .i64),(.i .i64),(.i .i64),(.i .i64),(.i .i64)]) ([(.i 6)]++SX.Z 2 4++[(.i 0),(.i 0),(.i 0),(.i 0),(.i 0),(.i 0),(.i 0),(.i 0),(.i 0),(.i 0),(.i 0),(.i 0),(.i 0),(.i 0),(.i 0),(.i 0),(.i 0),(.i 6)]++SX.Z 2 21) .one
(.br 25 []
(.ret (.t [(.k (.slice none 0 0)),(.i 360)]) (List.replicate 13 none) [])
(.df (.bin .geq 3) [(.q 2),(.i 0)] .one
(.br 26 []
(.df (.bin .leq 3) [(.q 2),(.i 64)] .one
(.br 27 []
(.df (.bin .geq 3) [(.q 4),(.i 0)] .one
(.br 28 []
(.df (.bin .leq 3) [(.q 4),(.q 5)] .one
(.br 29 []
(.df (.bin .leq 3) [(.q 5),(.i 4095)] .one
(.br 30 []
(.df (.bin .geq 3) [(.q 2),(.i 1)] .one
(.br 31 []
(.df (.bin .leq 3) [(.q 2),(.i 64)] .one
(.br 32 []
(.df (.bin .geq 3) [(.q 3),(.i 1)] .one
(.br 33 []
(.df (.bin .leq 3) [(.q 3),(.i 64)] .one
(.br 34 []
(.df (.bin .neq 3) [(.q 2),(.q 3)] .one
(.df .not [(.q 35)] .one
(.br 36 []
(.ret (.t [(.k (.slice none 0 0)),(.i 360)]) (List.replicate 16 none) [])
(.df (.len false) [(.q 0)] .one
(.loop [(.i 0),(.cat [])] [.one,.any]
(.df (.bin .lss 3) [(.q 38),(.q 37)] .one
(.br 40 []
(.df .bnd [(.q 0),(.q 38)] .one
(.df (.elems 14 0 14) [(.q 0),(.q 38)] (.ag 14)
(.df (.bin .geq 3) [(.x 42 [2]),(.q 4)] .one
(.br 43 []
(.df (.bin .leq 3) [(.x 42 [2]),(.q 5)] .one
(.br 44 []
(.df (.bin .sub 3) [(.q 2),(.i 1)] .one
(.df (.bin .sub 3) [(.q 3),(.i 1)] .one
(.df (.bin .eql 3) [(.x 42 [1]),(.q 45)] .one
(.br 47 []
(.df (.bin .eql 3) [(.x 42 [9]),(.q 2)] .one
(.br 48 []
(.df (.app 14 112 (.own 14 ([(.x 42 [0]),(.q 46)]++SX.Y 42 2 7++[(.q 3)]++SX.Y 42 10 4))) [(.cat [(.q 39)]),(.sl 42 0 1 1)] .any
(.df (.bin .add 3) [(.q 38),(.i 1)] .one
(.again 0 [(.q 50),(.cat [(.q 39),(.q 49)])])))
(.df (.bin .eql 3) [(.x 42 [9]),(.q 3)] .one
(.br 49 []
(.df (.app 14 112 (.own 14 ([(.x 42 [0]),(.q 46)]++SX.Y 42 2 7++[(.q 2)]++SX.Y 42 10 4))) [(.cat [(.q 39)]),(.sl 42 0 1 1)] .any
(.df (.bin .add 3) [(.q 38),(.i 1)] .one
(.again 0 [(.q 51),(.cat [(.q 39),(.q 50)])])))
(.df (.app 14 112 (.own 14 ([(.x 42 [0]),(.q 46)]++SX.Y 42 2 12))) [(.cat [(.q 39)]),(.sl 42 0 1 1)] .any
(.df (.bin .add 3) [(.q 38),(.i 1)] .one
(.again 0 [(.q 51),(.cat [(.q 39),(.q 50)])])))))))
(.df (.bin .eql 3) [(.x 42 [1]),(.q 46)] .one
(.br 48 []
(.df (.bin .eql 3) [(.x 42 [9]),(.q 2)] .one
(.br 49 []
(.df (.app 14 112 (.own 14 ([(.x 42 [0]),(.q 45)]++SX.Y 42 2 7++[(.q 3)]++SX.Y 42 10 4))) [(.cat [(.q 39)]),(.sl 42 0 1 1)] .any
(.df (.bin .add 3) [(.q 38),(.i 1)] .one
(.again 0 [(.q 51),(.cat [(.q 39),(.q 50)])])))
(.df (.bin .eql 3) [(.x 42 [9]),(.q 3)] .one
(.br 50 []
(.df (.app 14 112 (.own 14 ([(.x 42 [0]),(.q 45)]++SX.Y 42 2 7++[(.q 2)]++SX.Y 42 10 4))) [(.cat [(.q 39)]),(.sl 42 0 1 1)] .any
(.df (.bin .add 3) [(.q 38),(.i 1)] .one
(.again 0 [(.q 52),(.cat [(.q 39),(.q 51)])])))
(.df (.app 14 112 (.own 14 ([(.x 42 [0]),(.q 45)]++SX.Y 42 2 12))) [(.cat [(.q 39)]),(.sl 42 0 1 1)] .any
(.df (.bin .add 3) [(.q 38),(.i 1)] .one
(.again 0 [(.q 52),(.cat [(.q 39),(.q 51)])])))))))
(.df (.bin .eql 3) [(.x 42 [9]),(.q 2)] .one
(.br 49 []
(.df (.app 14 112 (.own 14 (SX.Y 42 0 9++[(.q 3)]++SX.Y 42 10 4))) [(.cat [(.q 39)]),(.sl 42 0 1 1)] .any
(.df (.bin .add 3) [(.q 38),(.i 1)] .one
(.again 0 [(.q 51),(.cat [(.q 39),(.q 50)])])))
(.df (.bin .eql 3) [(.x 42 [9]),(.q 3)] .one
(.br 50 []
(.df (.app 14 112 (.own 14 (SX.Y 42 0 9++[(.q 2)]++SX.Y 42 10 4))) [(.cat [(.q 39)]),(.sl 42 0 1 1)] .any
(.df (.bin .add 3) [(.q 38),(.i 1)] .one
(.again 0 [(.q 52),(.cat [(.q 39),(.q 51)])])))
(.df (.app 14 112 (.own 14 (SX.Y 42 0 14))) [(.cat [(.q 39)]),(.sl 42 0 1 1)] .any
(.df (.bin .add 3) [(.q 38),(.i 1)] .one
(.again 0 [(.q 52),(.cat [(.q 39),(.q 51)])])))))))))))))
(.df (.app 14 112 (.own 14 (SX.Y 42 0 14))) [(.cat [(.q 39)]),(.sl 24 0 1 1)] .any
(.df (.bin .add 3) [(.q 38),(.i 1)] .one
(.again 0 [(.q 46),(.cat [(.q 39),(.q 45)])])))))
(.df (.app 14 112 (.own 14 (SX.Y 42 0 14))) [(.cat [(.q 39)]),(.sl 24 0 1 1)] .any
(.df (.bin .add 3) [(.q 38),(.i 1)] .one
(.again 0 [(.q 45),(.cat [(.q 39),(.q 44)])])))))))
(.df (.call 14 [(.row 14 [(.q 39)])]) [(.row 21)] .one
(.df (.bin .neq 31) [(.q 41),(.i 0)] .one
(.br 42 []
(.ret (.t [(.k (.slice none 0 0)),(.q 41)]) (List.replicate 22 none) [])
(.ret (.t [(.row 21),(.i 0)]) (List.replicate 21 none++[(some ⟨[(.q 39)],26,(.row 14)⟩)]) [])))))))))))
(.ret (.t [(.k (.slice none 0 0)),(.i 360)]) (List.replicate 16 none) [])))
(.ret (.t [(.k (.slice none 0 0)),(.i 360)]) (List.replicate 16 none) [])))
(.ret (.t [(.k (.slice none 0 0)),(.i 360)]) (List.replicate 16 none) [])))
(.ret (.t [(.k (.slice none 0 0)),(.i 360)]) (List.replicate 16 none) [])))
(.ret (.t [(.k (.slice none 0 0)),(.i 360)]) (List.replicate 16 none) [])))
(.ret (.t [(.k (.slice none 0 0)),(.i 360)]) (List.replicate 16 none) [])))
(.ret (.t [(.k (.slice none 0 0)),(.i 360)]) (List.replicate 16 none) [])))
(.ret (.t [(.k (.slice none 0 0)),(.i 360)]) (List.replicate 15 none) [])))
(.ret (.t [(.k (.slice none 0 0)),(.i 360)]) (List.replicate 15 none) []))))))))
def args_e6:List SX.V:=[.x 0 [],.a ([.k (.int .i64 6)]++(List.range 21).map fun j=>.x (2+j) [])]
set_option maxRecDepth 100000 in
theorem run_e6(K A:Value→Nat→List Value→Prop):(SX.run (cxE3 K A) ⟨fun _=>true,[⟨12,13,[(.s 51,.one),(.s 4,.row 14 26)]⟩],2,100⟩ 100000 0 (SX.door 12 Try.f12 args_e6 (List.replicate 23 .one)) [.code (Try.f12.body.getD .skip),.top Try.f12]).strip=tree_e6:=by kernel_rfl
set_option maxRecDepth 100000 in
set_option maxHeartbeats 4000000 in
theorem e6_any(ss:List Sg)(A:Option Addr)(n c:Nat)(role other fr to m sn sd:Int)(sg:Sg)(w:World)(hr:Rd w 14 A n (sgsL ss))(hn:n≤9223372036854775807)(hc:n≤c):Calls Try.prog 12 #[.slice A n c,valE (⟨6,role,other,fr,to,m,sn,sd,sg⟩:Ed)] w fun e w'=>Below w.heap.size w w'∧∃ hdr,e=.returned (.tuple #[hdr,.int .i64 (applyE (⟨6,role,other,fr,to,m,sn,sd,sg⟩:Ed) ss).2])∧SX.SlRet w w' [] hdr 14 (sgsL (applyE (⟨6,role,other,fr,to,m,sn,sd,sg⟩:Ed) ss).1):=by
 refine SX.calls_of_run (C:=cxE3 (fun s sz cells=>s=.slice A n c∧sz=14∧cells=sgsL ss) (fun _ _ _=>False)) (G:=⟨fun _=>true,[⟨12,13,[(.s 51,.one),(.s 4,.row 14 26)]⟩],2,100⟩) (args:=args_e6) (sh:=(List.replicate 23 .one)) (ρ:=([.slice A n c]++cellsE (⟨6,role,other,fr,to,m,sn,sd,sg⟩:Ed))) 100000 tree_e6 (okE3 _ _) Try.func12 rfl (run_e6 _ _) (by kernel_rfl) (by kernel_rfl) (by kernel_rfl) ?_ ?_
 ·rintro W hW s sz cells ⟨rfl,rfl,rfl⟩;exact⟨hr.same0 hW,hc⟩
 have hA:=SX.rd_some hr
 have hln:ss.length=n:=by have:=hr.1;rw [sgsL_len]at this;omega
 have k1:(fun s sz cells=>s=.slice A n c∧sz=14∧cells=sgsL ss) (Value.slice A n c) 14 (sgsL ss):=⟨rfl,rfl,rfl⟩
 have hu:usesE (⟨6,role,other,fr,to,m,sn,sd,sg⟩:Ed)=(⟨6,role,other,fr,to,0,0,0,zeroSg⟩:Ed):=by unfold usesE;rw [if_neg (by show ¬ ((6:Int)=1);decide),if_neg (by show ¬ ((6:Int)=2);decide),if_neg (by show ¬ ((6:Int)=3);decide),if_neg (by show ¬ ((6:Int)=4);decide),if_neg (by show ¬ ((6:Int)=5);decide),if_pos rfl]
 have hrt:rightE (⟨6,role,other,fr,to,m,sn,sd,sg⟩:Ed)↔(0≤role∧role≤64∧0≤fr∧fr≤to∧to≤4095)∧1≤role∧1≤other∧other≤64∧role≠other:=by unfold rightE;rw [if_neg (by show ¬ ((6:Int)=1);decide),if_neg (by show ¬ ((6:Int)=2);decide),if_neg (by show ¬ ((6:Int)=3);decide),if_neg (by show ¬ ((6:Int)=4);decide),if_neg (by show ¬ ((6:Int)=5);decide),if_pos rfl];try simp only [roleE,barsE]
 have hwk:∀ z:Sg,workE (⟨6,role,other,fr,to,m,sn,sd,sg⟩:Ed) z=(if fr≤z.bar∧z.bar≤to then some [{ z with role:=swapN z.role (role-1) (other-1),with_:=swapN z.with_ role other }]else some [z]):=fun z=>by unfold workE;rw [if_neg (by show ¬ ((6:Int)=1);decide),if_neg (by show ¬ ((6:Int)=2);decide),if_neg (by show ¬ ((6:Int)=3);decide),if_neg (by show ¬ ((6:Int)=4);decide),if_pos rfl]
 unfold tree_e6
 refine SX.E (.int .i64 ((chkS ss))) (fun α=>⟨[⟨.slice A n c,14,sgsL ss⟩],⟨by kernel_rfl,rfl,cast (by kernel_rfl) k1,trivial⟩,.inl ⟨rfl,.slice A n c,ss,rfl,by omega,rfl⟩,SX.noAli rfl⟩) ?_
 refine SX.D (.bool (((chkS ss):Int) != 0)) ?_
 refine SX.B (((chkS ss):Int) != 0) (fun h24=>?_) (fun h24=>?_)
 ·try simp only [NRM]at h24
  have hfact:applyE (⟨6,role,other,fr,to,m,sn,sd,sg⟩:Ed) ss=([],chkS ss):=applyE_chk h24
  exact SX.VC_ret fun α W _ hR hS=>⟨hS.below,(.slice none 0 0),Eq.trans (b:=Ending.returned (.tuple #[(.slice none 0 0),.int .i64 ((chkS ss))])) (by kernel_rfl) (by rw [hfact]),(by rw [hfact];exact SX.SlRet.nil)⟩
 try simp only [NRM]at h24
 refine SX.E (.bool (true ^^ decide ((⟨6,role,other,fr,to,0,0,0,zeroSg⟩:Ed)=(⟨6,role,other,fr,to,m,sn,sd,sg⟩:Ed)))) (fun α=>SX.eqr_rel (f:=cellsE) cellsE_inj (y:=(⟨6,role,other,fr,to,0,0,0,zeroSg⟩:Ed)) (z:=(⟨6,role,other,fr,to,m,sn,sd,sg⟩:Ed)) (by kernel_rfl) (by kernel_rfl) (by kernel_rfl)) ?_
 refine SX.B (true ^^ decide ((⟨6,role,other,fr,to,0,0,0,zeroSg⟩:Ed)=(⟨6,role,other,fr,to,m,sn,sd,sg⟩:Ed))) (fun h25=>?_) (fun h25=>?_)
 ·try simp only [NRM]at h25
  have hfact:applyE (⟨6,role,other,fr,to,m,sn,sd,sg⟩:Ed) ss=([],360):=applyE_no h24 (fun hk=>by first|exact h25 (by rw [← hu];exact hk.2.2.1)|(have:=hrt.1 hk.2.2.2;omega)|(have:=hrt.1 hk.2.2.2;have:=okR_iff2.2 this.2.1;omega))
  exact SX.VC_ret fun α W _ hR hS=>⟨hS.below,(.slice none 0 0),Eq.trans (b:=Ending.returned (.tuple #[(.slice none 0 0),.int .i64 360])) (by kernel_rfl) (by rw [hfact]),(by rw [hfact];exact SX.SlRet.nil)⟩
 try simp only [NRM]at h25
 refine SX.D (.bool (decide (role≥0))) ?_
 refine SX.B (decide (role≥0)) (fun h26=>?_) (fun h26=>?_)
 ·try simp only [NRM]at h26
  refine SX.D (.bool (decide (role≤64))) ?_
  refine SX.B (decide (role≤64)) (fun h27=>?_) (fun h27=>?_)
  ·try simp only [NRM]at h27
   refine SX.D (.bool (decide (fr≥0))) ?_
   refine SX.B (decide (fr≥0)) (fun h28=>?_) (fun h28=>?_)
   ·try simp only [NRM]at h28
    refine SX.D (.bool (decide (fr≤to))) ?_
    refine SX.B (decide (fr≤to)) (fun h29=>?_) (fun h29=>?_)
    ·try simp only [NRM]at h29
     refine SX.D (.bool (decide (to≤4095))) ?_
     refine SX.B (decide (to≤4095)) (fun h30=>?_) (fun h30=>?_)
     ·try simp only [NRM]at h30
      refine SX.D (.bool (decide (role≥1))) ?_
      refine SX.B (decide (role≥1)) (fun h31=>?_) (fun h31=>?_)
      ·try simp only [NRM]at h31
       refine SX.D (.bool (decide (role≤64))) ?_
       refine SX.B (decide (role≤64)) (fun h32=>?_) (fun h32=>?_)
       ·try simp only [NRM]at h32
        refine SX.D (.bool (decide (other≥1))) ?_
        refine SX.B (decide (other≥1)) (fun h33=>?_) (fun h33=>?_)
        ·try simp only [NRM]at h33
         refine SX.D (.bool (decide (other≤64))) ?_
         refine SX.B (decide (other≤64)) (fun h34=>?_) (fun h34=>?_)
         ·try simp only [NRM]at h34
          refine SX.D (.bool ((role:Int) != other)) ?_
          refine SX.D (.bool (!((role:Int) != other))) ?_
          refine SX.B (!((role:Int) != other)) (fun h36=>?_) (fun h36=>?_)
          ·try simp only [NRM]at h36
           have hfact:applyE (⟨6,role,other,fr,to,m,sn,sd,sg⟩:Ed) ss=([],360):=applyE_no h24 (fun hk=>by first|exact h25 (by rw [← hu];exact hk.2.2.1)|(have:=hrt.1 hk.2.2.2;omega)|(have:=hrt.1 hk.2.2.2;have:=okR_iff2.2 this.2.1;omega))
           exact SX.VC_ret fun α W _ hR hS=>⟨hS.below,(.slice none 0 0),Eq.trans (b:=Ending.returned (.tuple #[(.slice none 0 0),.int .i64 360])) (by kernel_rfl) (by rw [hfact]),(by rw [hfact];exact SX.SlRet.nil)⟩
          try simp only [NRM]at h36
          refine SX.D (.int .i64 (((n:Nat):Int))) ?_
          have hok:okE (⟨6,role,other,fr,to,m,sn,sd,sg⟩:Ed):=⟨by show(1:Int)≤6;decide,by show(6:Int)≤7;decide,hu.trans h25,hrt.2 (by first|omega|(refine⟨by omega,?_⟩;exact⟨okR_iff2.1 (by assumption),by omega,by omega⟩))⟩
          obtain⟨hss,hs4⟩:=chkS_ok h24
          refine SX.VC_loop (fun xs=>∃ (i:Nat) (cur:List Sg),xs=[.int .i64 (i:Int),.agg (sgsL cur).toArray]∧i≤n∧accE (⟨6,role,other,fr,to,m,sn,sd,sg⟩:Ed) (ss.take i)=some cur) (fun xs=>match xs with|[.int _ i,_]=>n-i.toNat|_=>0) (fun α=>⟨0,[],by kernel_rfl,by omega,rfl⟩) ?_
          rintro xs-⟨i,cur,rfl,hin,hacc⟩
          have hcl:=acc_len hacc
          refine SX.D (.bool (decide (((i:Nat):Int)<((n:Nat):Int)))) ?_
          refine SX.B (decide (((i:Nat):Int)<((n:Nat):Int))) (fun h40=>?_) (fun h40=>?_)
          ·try simp only [NRM]at h40
           obtain⟨z,hz⟩:∃ z,ss[i]?=some z:=⟨_,List.getElem?_eq_getElem (by omega)⟩
           have zb:=hss.1 z (List.mem_of_getElem? hz)
           rw [Sg.ok_iff]at zb
           obtain⟨⟨z1,z2⟩,⟨z3,z4⟩,⟨z5,z6⟩,⟨z7,z8⟩,⟨z9,z10⟩,⟨z11,z12⟩,⟨z13,z14⟩,⟨z15,z16⟩,⟨z17,z18⟩,⟨z19,z20⟩,z21⟩:=zb
           refine SX.E (.bool true) (fun α=>SX.extBnd (A:=A) (n:=n) (c:=c) (j:=i) hA (by kernel_rfl) (by kernel_rfl) (by omega)) ?_
           refine SX.E (.agg (cellsSg z).toArray) (fun α=>SX.extElems (f:=cellsSg) (l:=ss) (A:=A) (n:=n) (c:=c) (j:=i) (z:=z) (fun _=>rfl) hA (by kernel_rfl) (by kernel_rfl) (by omega) (cast (by kernel_rfl) k1) hz) ?_
           refine SX.D (.bool (decide (z.bar≥fr))) ?_
           refine SX.B (decide (z.bar≥fr)) (fun h43=>?_) (fun h43=>?_)
           ·try simp only [NRM]at h43
            refine SX.D (.bool (decide (z.bar≤to))) ?_
            refine SX.B (decide (z.bar≤to)) (fun h44=>?_) (fun h44=>?_)
            ·try simp only [NRM]at h44
             refine SX.E (.int .i64 (role-1)) (fun α=>SX.W (role-1)) ?_
             refine SX.E (.int .i64 (other-1)) (fun α=>SX.W (other-1)) ?_
             refine SX.D (.bool ((z.role:Int) == role-1)) ?_
             refine SX.B ((z.role:Int) == role-1) (fun h47=>?_) (fun h47=>?_)
             ·try simp only [NRM]at h47
              refine SX.D (.bool ((z.with_:Int) == role)) ?_
              refine SX.B ((z.with_:Int) == role) (fun h48=>?_) (fun h48=>?_)
              ·try simp only [NRM]at h48
               refine SX.E (Value.agg (([(⟨z.id,other-1,z.bar,z.mark,z.kind,z.side,z.dir,z.level,z.size,other,z.fn,z.fd,z.tn,z.td⟩:Sg)]).flatMap cellsSg).toArray) (fun α=>SX.app_rel (f:=cellsSg) (l1:=cur) (l2:=[(⟨z.id,other-1,z.bar,z.mark,z.kind,z.side,z.dir,z.level,z.size,other,z.fn,z.fd,z.tn,z.td⟩:Sg)]) (fun _=>rfl) cellsSg_one (by decide) (SX.cat1 (by kernel_rfl)) (SX.src_own (by kernel_rfl)) (by simp only [LL];omega) (by simp only [LL];omega)) ?_
               refine SX.E (.int .i64 (((i+1:Nat):Int))) (fun α=>SX.W1 i) ?_
               exact SX.VC_again fun α=>⟨⟨i+1,cur++[(⟨z.id,other-1,z.bar,z.mark,z.kind,z.side,z.dir,z.level,z.size,other,z.fn,z.fd,z.tn,z.td⟩:Sg)],Eq.trans (b:=[.int .i64 ((i+1:Nat):Int),.agg ([Value.agg (sgsL cur).toArray,Value.agg (([(⟨z.id,other-1,z.bar,z.mark,z.kind,z.side,z.dir,z.level,z.size,other,z.fn,z.fd,z.tn,z.td⟩:Sg)]).flatMap cellsSg).toArray].flatMap SX.cellsV).toArray]) (by kernel_rfl) (by simp [SX.cellsV,sgsL]),by omega,acc_step hz hacc (by rw [hwk];(try simp only [mirrorS,swapN]);(repeat' split)<;>first|rfl|(exfalso;omega))⟩,cast (by kernel_rfl) (show n-((i+1:Nat):Int).toNat<n-(i:Int).toNat by omega)⟩
              try simp only [NRM]at h48
              refine SX.D (.bool ((z.with_:Int) == other)) ?_
              refine SX.B ((z.with_:Int) == other) (fun h49=>?_) (fun h49=>?_)
              ·try simp only [NRM]at h49
               refine SX.E (Value.agg (([(⟨z.id,other-1,z.bar,z.mark,z.kind,z.side,z.dir,z.level,z.size,role,z.fn,z.fd,z.tn,z.td⟩:Sg)]).flatMap cellsSg).toArray) (fun α=>SX.app_rel (f:=cellsSg) (l1:=cur) (l2:=[(⟨z.id,other-1,z.bar,z.mark,z.kind,z.side,z.dir,z.level,z.size,role,z.fn,z.fd,z.tn,z.td⟩:Sg)]) (fun _=>rfl) cellsSg_one (by decide) (SX.cat1 (by kernel_rfl)) (SX.src_own (by kernel_rfl)) (by simp only [LL];omega) (by simp only [LL];omega)) ?_
               refine SX.E (.int .i64 (((i+1:Nat):Int))) (fun α=>SX.W1 i) ?_
               exact SX.VC_again fun α=>⟨⟨i+1,cur++[(⟨z.id,other-1,z.bar,z.mark,z.kind,z.side,z.dir,z.level,z.size,role,z.fn,z.fd,z.tn,z.td⟩:Sg)],Eq.trans (b:=[.int .i64 ((i+1:Nat):Int),.agg ([Value.agg (sgsL cur).toArray,Value.agg (([(⟨z.id,other-1,z.bar,z.mark,z.kind,z.side,z.dir,z.level,z.size,role,z.fn,z.fd,z.tn,z.td⟩:Sg)]).flatMap cellsSg).toArray].flatMap SX.cellsV).toArray]) (by kernel_rfl) (by simp [SX.cellsV,sgsL]),by omega,acc_step hz hacc (by rw [hwk];(try simp only [mirrorS,swapN]);(repeat' split)<;>first|rfl|(exfalso;omega))⟩,cast (by kernel_rfl) (show n-((i+1:Nat):Int).toNat<n-(i:Int).toNat by omega)⟩
              try simp only [NRM]at h49
              refine SX.E (Value.agg (([(⟨z.id,other-1,z.bar,z.mark,z.kind,z.side,z.dir,z.level,z.size,z.with_,z.fn,z.fd,z.tn,z.td⟩:Sg)]).flatMap cellsSg).toArray) (fun α=>SX.app_rel (f:=cellsSg) (l1:=cur) (l2:=[(⟨z.id,other-1,z.bar,z.mark,z.kind,z.side,z.dir,z.level,z.size,z.with_,z.fn,z.fd,z.tn,z.td⟩:Sg)]) (fun _=>rfl) cellsSg_one (by decide) (SX.cat1 (by kernel_rfl)) (SX.src_own (by kernel_rfl)) (by simp only [LL];omega) (by simp only [LL];omega)) ?_
              refine SX.E (.int .i64 (((i+1:Nat):Int))) (fun α=>SX.W1 i) ?_
              exact SX.VC_again fun α=>⟨⟨i+1,cur++[(⟨z.id,other-1,z.bar,z.mark,z.kind,z.side,z.dir,z.level,z.size,z.with_,z.fn,z.fd,z.tn,z.td⟩:Sg)],Eq.trans (b:=[.int .i64 ((i+1:Nat):Int),.agg ([Value.agg (sgsL cur).toArray,Value.agg (([(⟨z.id,other-1,z.bar,z.mark,z.kind,z.side,z.dir,z.level,z.size,z.with_,z.fn,z.fd,z.tn,z.td⟩:Sg)]).flatMap cellsSg).toArray].flatMap SX.cellsV).toArray]) (by kernel_rfl) (by simp [SX.cellsV,sgsL]),by omega,acc_step hz hacc (by rw [hwk];(try simp only [mirrorS,swapN]);(repeat' split)<;>first|rfl|(exfalso;omega))⟩,cast (by kernel_rfl) (show n-((i+1:Nat):Int).toNat<n-(i:Int).toNat by omega)⟩
             try simp only [NRM]at h47
             refine SX.D (.bool ((z.role:Int) == other-1)) ?_
             refine SX.B ((z.role:Int) == other-1) (fun h48=>?_) (fun h48=>?_)
             ·try simp only [NRM]at h48
              refine SX.D (.bool ((z.with_:Int) == role)) ?_
              refine SX.B ((z.with_:Int) == role) (fun h49=>?_) (fun h49=>?_)
              ·try simp only [NRM]at h49
               refine SX.E (Value.agg (([(⟨z.id,role-1,z.bar,z.mark,z.kind,z.side,z.dir,z.level,z.size,other,z.fn,z.fd,z.tn,z.td⟩:Sg)]).flatMap cellsSg).toArray) (fun α=>SX.app_rel (f:=cellsSg) (l1:=cur) (l2:=[(⟨z.id,role-1,z.bar,z.mark,z.kind,z.side,z.dir,z.level,z.size,other,z.fn,z.fd,z.tn,z.td⟩:Sg)]) (fun _=>rfl) cellsSg_one (by decide) (SX.cat1 (by kernel_rfl)) (SX.src_own (by kernel_rfl)) (by simp only [LL];omega) (by simp only [LL];omega)) ?_
               refine SX.E (.int .i64 (((i+1:Nat):Int))) (fun α=>SX.W1 i) ?_
               exact SX.VC_again fun α=>⟨⟨i+1,cur++[(⟨z.id,role-1,z.bar,z.mark,z.kind,z.side,z.dir,z.level,z.size,other,z.fn,z.fd,z.tn,z.td⟩:Sg)],Eq.trans (b:=[.int .i64 ((i+1:Nat):Int),.agg ([Value.agg (sgsL cur).toArray,Value.agg (([(⟨z.id,role-1,z.bar,z.mark,z.kind,z.side,z.dir,z.level,z.size,other,z.fn,z.fd,z.tn,z.td⟩:Sg)]).flatMap cellsSg).toArray].flatMap SX.cellsV).toArray]) (by kernel_rfl) (by simp [SX.cellsV,sgsL]),by omega,acc_step hz hacc (by rw [hwk];(try simp only [mirrorS,swapN]);(repeat' split)<;>first|rfl|(exfalso;omega))⟩,cast (by kernel_rfl) (show n-((i+1:Nat):Int).toNat<n-(i:Int).toNat by omega)⟩
              try simp only [NRM]at h49
              refine SX.D (.bool ((z.with_:Int) == other)) ?_
              refine SX.B ((z.with_:Int) == other) (fun h50=>?_) (fun h50=>?_)
              ·try simp only [NRM]at h50
               refine SX.E (Value.agg (([(⟨z.id,role-1,z.bar,z.mark,z.kind,z.side,z.dir,z.level,z.size,role,z.fn,z.fd,z.tn,z.td⟩:Sg)]).flatMap cellsSg).toArray) (fun α=>SX.app_rel (f:=cellsSg) (l1:=cur) (l2:=[(⟨z.id,role-1,z.bar,z.mark,z.kind,z.side,z.dir,z.level,z.size,role,z.fn,z.fd,z.tn,z.td⟩:Sg)]) (fun _=>rfl) cellsSg_one (by decide) (SX.cat1 (by kernel_rfl)) (SX.src_own (by kernel_rfl)) (by simp only [LL];omega) (by simp only [LL];omega)) ?_
               refine SX.E (.int .i64 (((i+1:Nat):Int))) (fun α=>SX.W1 i) ?_
               exact SX.VC_again fun α=>⟨⟨i+1,cur++[(⟨z.id,role-1,z.bar,z.mark,z.kind,z.side,z.dir,z.level,z.size,role,z.fn,z.fd,z.tn,z.td⟩:Sg)],Eq.trans (b:=[.int .i64 ((i+1:Nat):Int),.agg ([Value.agg (sgsL cur).toArray,Value.agg (([(⟨z.id,role-1,z.bar,z.mark,z.kind,z.side,z.dir,z.level,z.size,role,z.fn,z.fd,z.tn,z.td⟩:Sg)]).flatMap cellsSg).toArray].flatMap SX.cellsV).toArray]) (by kernel_rfl) (by simp [SX.cellsV,sgsL]),by omega,acc_step hz hacc (by rw [hwk];(try simp only [mirrorS,swapN]);(repeat' split)<;>first|rfl|(exfalso;omega))⟩,cast (by kernel_rfl) (show n-((i+1:Nat):Int).toNat<n-(i:Int).toNat by omega)⟩
              try simp only [NRM]at h50
              refine SX.E (Value.agg (([(⟨z.id,role-1,z.bar,z.mark,z.kind,z.side,z.dir,z.level,z.size,z.with_,z.fn,z.fd,z.tn,z.td⟩:Sg)]).flatMap cellsSg).toArray) (fun α=>SX.app_rel (f:=cellsSg) (l1:=cur) (l2:=[(⟨z.id,role-1,z.bar,z.mark,z.kind,z.side,z.dir,z.level,z.size,z.with_,z.fn,z.fd,z.tn,z.td⟩:Sg)]) (fun _=>rfl) cellsSg_one (by decide) (SX.cat1 (by kernel_rfl)) (SX.src_own (by kernel_rfl)) (by simp only [LL];omega) (by simp only [LL];omega)) ?_
              refine SX.E (.int .i64 (((i+1:Nat):Int))) (fun α=>SX.W1 i) ?_
              exact SX.VC_again fun α=>⟨⟨i+1,cur++[(⟨z.id,role-1,z.bar,z.mark,z.kind,z.side,z.dir,z.level,z.size,z.with_,z.fn,z.fd,z.tn,z.td⟩:Sg)],Eq.trans (b:=[.int .i64 ((i+1:Nat):Int),.agg ([Value.agg (sgsL cur).toArray,Value.agg (([(⟨z.id,role-1,z.bar,z.mark,z.kind,z.side,z.dir,z.level,z.size,z.with_,z.fn,z.fd,z.tn,z.td⟩:Sg)]).flatMap cellsSg).toArray].flatMap SX.cellsV).toArray]) (by kernel_rfl) (by simp [SX.cellsV,sgsL]),by omega,acc_step hz hacc (by rw [hwk];(try simp only [mirrorS,swapN]);(repeat' split)<;>first|rfl|(exfalso;omega))⟩,cast (by kernel_rfl) (show n-((i+1:Nat):Int).toNat<n-(i:Int).toNat by omega)⟩
             try simp only [NRM]at h48
             refine SX.D (.bool ((z.with_:Int) == role)) ?_
             refine SX.B ((z.with_:Int) == role) (fun h49=>?_) (fun h49=>?_)
             ·try simp only [NRM]at h49
              refine SX.E (Value.agg (([(⟨z.id,z.role,z.bar,z.mark,z.kind,z.side,z.dir,z.level,z.size,other,z.fn,z.fd,z.tn,z.td⟩:Sg)]).flatMap cellsSg).toArray) (fun α=>SX.app_rel (f:=cellsSg) (l1:=cur) (l2:=[(⟨z.id,z.role,z.bar,z.mark,z.kind,z.side,z.dir,z.level,z.size,other,z.fn,z.fd,z.tn,z.td⟩:Sg)]) (fun _=>rfl) cellsSg_one (by decide) (SX.cat1 (by kernel_rfl)) (SX.src_own (by kernel_rfl)) (by simp only [LL];omega) (by simp only [LL];omega)) ?_
              refine SX.E (.int .i64 (((i+1:Nat):Int))) (fun α=>SX.W1 i) ?_
              exact SX.VC_again fun α=>⟨⟨i+1,cur++[(⟨z.id,z.role,z.bar,z.mark,z.kind,z.side,z.dir,z.level,z.size,other,z.fn,z.fd,z.tn,z.td⟩:Sg)],Eq.trans (b:=[.int .i64 ((i+1:Nat):Int),.agg ([Value.agg (sgsL cur).toArray,Value.agg (([(⟨z.id,z.role,z.bar,z.mark,z.kind,z.side,z.dir,z.level,z.size,other,z.fn,z.fd,z.tn,z.td⟩:Sg)]).flatMap cellsSg).toArray].flatMap SX.cellsV).toArray]) (by kernel_rfl) (by simp [SX.cellsV,sgsL]),by omega,acc_step hz hacc (by rw [hwk];(try simp only [mirrorS,swapN]);(repeat' split)<;>first|rfl|(exfalso;omega))⟩,cast (by kernel_rfl) (show n-((i+1:Nat):Int).toNat<n-(i:Int).toNat by omega)⟩
             try simp only [NRM]at h49
             refine SX.D (.bool ((z.with_:Int) == other)) ?_
             refine SX.B ((z.with_:Int) == other) (fun h50=>?_) (fun h50=>?_)
             ·try simp only [NRM]at h50
              refine SX.E (Value.agg (([(⟨z.id,z.role,z.bar,z.mark,z.kind,z.side,z.dir,z.level,z.size,role,z.fn,z.fd,z.tn,z.td⟩:Sg)]).flatMap cellsSg).toArray) (fun α=>SX.app_rel (f:=cellsSg) (l1:=cur) (l2:=[(⟨z.id,z.role,z.bar,z.mark,z.kind,z.side,z.dir,z.level,z.size,role,z.fn,z.fd,z.tn,z.td⟩:Sg)]) (fun _=>rfl) cellsSg_one (by decide) (SX.cat1 (by kernel_rfl)) (SX.src_own (by kernel_rfl)) (by simp only [LL];omega) (by simp only [LL];omega)) ?_
              refine SX.E (.int .i64 (((i+1:Nat):Int))) (fun α=>SX.W1 i) ?_
              exact SX.VC_again fun α=>⟨⟨i+1,cur++[(⟨z.id,z.role,z.bar,z.mark,z.kind,z.side,z.dir,z.level,z.size,role,z.fn,z.fd,z.tn,z.td⟩:Sg)],Eq.trans (b:=[.int .i64 ((i+1:Nat):Int),.agg ([Value.agg (sgsL cur).toArray,Value.agg (([(⟨z.id,z.role,z.bar,z.mark,z.kind,z.side,z.dir,z.level,z.size,role,z.fn,z.fd,z.tn,z.td⟩:Sg)]).flatMap cellsSg).toArray].flatMap SX.cellsV).toArray]) (by kernel_rfl) (by simp [SX.cellsV,sgsL]),by omega,acc_step hz hacc (by rw [hwk];(try simp only [mirrorS,swapN]);(repeat' split)<;>first|rfl|(exfalso;omega))⟩,cast (by kernel_rfl) (show n-((i+1:Nat):Int).toNat<n-(i:Int).toNat by omega)⟩
             try simp only [NRM]at h50
             refine SX.E (Value.agg (([z]).flatMap cellsSg).toArray) (fun α=>SX.app_rel (f:=cellsSg) (l1:=cur) (l2:=[z]) (fun _=>rfl) cellsSg_one (by decide) (SX.cat1 (by kernel_rfl)) (SX.src_own (by kernel_rfl)) (by simp only [LL];omega) (by simp only [LL];omega)) ?_
             refine SX.E (.int .i64 (((i+1:Nat):Int))) (fun α=>SX.W1 i) ?_
             exact SX.VC_again fun α=>⟨⟨i+1,cur++[z],Eq.trans (b:=[.int .i64 ((i+1:Nat):Int),.agg ([Value.agg (sgsL cur).toArray,Value.agg (([z]).flatMap cellsSg).toArray].flatMap SX.cellsV).toArray]) (by kernel_rfl) (by simp [SX.cellsV,sgsL]),by omega,acc_step hz hacc (by rw [hwk];(try simp only [mirrorS,swapN]);(repeat' split)<;>first|rfl|(exfalso;omega))⟩,cast (by kernel_rfl) (show n-((i+1:Nat):Int).toNat<n-(i:Int).toNat by omega)⟩
            try simp only [NRM]at h44
            refine SX.E (Value.agg (([z]).flatMap cellsSg).toArray) (fun α=>SX.app_rel (f:=cellsSg) (l1:=cur) (l2:=[z]) (fun _=>rfl) cellsSg_one (by decide) (SX.cat1 (by kernel_rfl)) (SX.src_own (by kernel_rfl)) (by simp only [LL];omega) (by simp only [LL];omega)) ?_
            refine SX.E (.int .i64 (((i+1:Nat):Int))) (fun α=>SX.W1 i) ?_
            exact SX.VC_again fun α=>⟨⟨i+1,cur++[z],Eq.trans (b:=[.int .i64 ((i+1:Nat):Int),.agg ([Value.agg (sgsL cur).toArray,Value.agg (([z]).flatMap cellsSg).toArray].flatMap SX.cellsV).toArray]) (by kernel_rfl) (by simp [SX.cellsV,sgsL]),by omega,acc_step hz hacc (by rw [hwk];(try simp only [mirrorS,swapN]);(repeat' split)<;>first|rfl|(exfalso;omega))⟩,cast (by kernel_rfl) (show n-((i+1:Nat):Int).toNat<n-(i:Int).toNat by omega)⟩
           try simp only [NRM]at h43
           refine SX.E (Value.agg (([z]).flatMap cellsSg).toArray) (fun α=>SX.app_rel (f:=cellsSg) (l1:=cur) (l2:=[z]) (fun _=>rfl) cellsSg_one (by decide) (SX.cat1 (by kernel_rfl)) (SX.src_own (by kernel_rfl)) (by simp only [LL];omega) (by simp only [LL];omega)) ?_
           refine SX.E (.int .i64 (((i+1:Nat):Int))) (fun α=>SX.W1 i) ?_
           exact SX.VC_again fun α=>⟨⟨i+1,cur++[z],Eq.trans (b:=[.int .i64 ((i+1:Nat):Int),.agg ([Value.agg (sgsL cur).toArray,Value.agg (([z]).flatMap cellsSg).toArray].flatMap SX.cellsV).toArray]) (by kernel_rfl) (by simp [SX.cellsV,sgsL]),by omega,acc_step hz hacc (by rw [hwk];(try simp only [mirrorS,swapN]);(repeat' split)<;>first|rfl|(exfalso;omega))⟩,cast (by kernel_rfl) (show n-((i+1:Nat):Int).toNat<n-(i:Int).toNat by omega)⟩
          try simp only [NRM]at h40
          refine SX.E (.int .i64 ((chkS cur))) (fun α=>⟨[⟨(α 21).h,14,sgsL cur⟩],⟨Eq.trans (b:=(⟨(α 21).h,14,[Value.agg (sgsL cur).toArray].flatMap SX.cellsV⟩:SX.Arg)) (by simp [SX.cellsV]) (by kernel_rfl),trivial⟩,.inl ⟨rfl,_,cur,rfl,by omega,rfl⟩,SX.noAli rfl⟩) ?_
          refine SX.D (.bool (((chkS cur):Int) != 0)) ?_
          refine SX.B (((chkS cur):Int) != 0) (fun h42=>?_) (fun h42=>?_)
          ·try simp only [NRM]at h42
           have hfact:applyE (⟨6,role,other,fr,to,m,sn,sd,sg⟩:Ed) ss=([],chkS cur):=applyE_out h24 hok (by rw [← hacc,List.take_of_length_le (by omega)]) (by assumption)
           exact SX.VC_ret fun α W _ hR hS=>⟨hS.below,(.slice none 0 0),Eq.trans (b:=Ending.returned (.tuple #[(.slice none 0 0),.int .i64 ((chkS cur))])) (by kernel_rfl) (by rw [hfact]),(by rw [hfact];exact SX.SlRet.nil)⟩
          try simp only [NRM]at h42
          have hfact:applyE (⟨6,role,other,fr,to,m,sn,sd,sg⟩:Ed) ss=(cur,0):=applyE_ok h24 hok (by rw [← hacc,List.take_of_length_le (by omega)]) (by omega)
          exact SX.VC_ret fun α W _ hR hS=>⟨hS.below,(α 21).h,Eq.trans (b:=Ending.returned (.tuple #[(α 21).h,.int .i64 0])) (by kernel_rfl) (by rw [hfact]),SX.SlRet.row hS (n:=21) (b:=(⟨[(.x 39 [])],26,(.row 14)⟩:SX.Blk)) (by kernel_rfl) rfl (hR 21 _ (by kernel_rfl)) (Eq.trans (b:=[Value.agg (sgsL cur).toArray].flatMap SX.cellsV) (by kernel_rfl) (by rw [hfact];simp [SX.cellsV]))⟩
         try simp only [NRM]at h34
         have hfact:applyE (⟨6,role,other,fr,to,m,sn,sd,sg⟩:Ed) ss=([],360):=applyE_no h24 (fun hk=>by first|exact h25 (by rw [← hu];exact hk.2.2.1)|(have:=hrt.1 hk.2.2.2;omega)|(have:=hrt.1 hk.2.2.2;have:=okR_iff2.2 this.2.1;omega))
         exact SX.VC_ret fun α W _ hR hS=>⟨hS.below,(.slice none 0 0),Eq.trans (b:=Ending.returned (.tuple #[(.slice none 0 0),.int .i64 360])) (by kernel_rfl) (by rw [hfact]),(by rw [hfact];exact SX.SlRet.nil)⟩
        try simp only [NRM]at h33
        have hfact:applyE (⟨6,role,other,fr,to,m,sn,sd,sg⟩:Ed) ss=([],360):=applyE_no h24 (fun hk=>by first|exact h25 (by rw [← hu];exact hk.2.2.1)|(have:=hrt.1 hk.2.2.2;omega)|(have:=hrt.1 hk.2.2.2;have:=okR_iff2.2 this.2.1;omega))
        exact SX.VC_ret fun α W _ hR hS=>⟨hS.below,(.slice none 0 0),Eq.trans (b:=Ending.returned (.tuple #[(.slice none 0 0),.int .i64 360])) (by kernel_rfl) (by rw [hfact]),(by rw [hfact];exact SX.SlRet.nil)⟩
       try simp only [NRM]at h32
       have hfact:applyE (⟨6,role,other,fr,to,m,sn,sd,sg⟩:Ed) ss=([],360):=applyE_no h24 (fun hk=>by first|exact h25 (by rw [← hu];exact hk.2.2.1)|(have:=hrt.1 hk.2.2.2;omega)|(have:=hrt.1 hk.2.2.2;have:=okR_iff2.2 this.2.1;omega))
       exact SX.VC_ret fun α W _ hR hS=>⟨hS.below,(.slice none 0 0),Eq.trans (b:=Ending.returned (.tuple #[(.slice none 0 0),.int .i64 360])) (by kernel_rfl) (by rw [hfact]),(by rw [hfact];exact SX.SlRet.nil)⟩
      try simp only [NRM]at h31
      have hfact:applyE (⟨6,role,other,fr,to,m,sn,sd,sg⟩:Ed) ss=([],360):=applyE_no h24 (fun hk=>by first|exact h25 (by rw [← hu];exact hk.2.2.1)|(have:=hrt.1 hk.2.2.2;omega)|(have:=hrt.1 hk.2.2.2;have:=okR_iff2.2 this.2.1;omega))
      exact SX.VC_ret fun α W _ hR hS=>⟨hS.below,(.slice none 0 0),Eq.trans (b:=Ending.returned (.tuple #[(.slice none 0 0),.int .i64 360])) (by kernel_rfl) (by rw [hfact]),(by rw [hfact];exact SX.SlRet.nil)⟩
     try simp only [NRM]at h30
     have hfact:applyE (⟨6,role,other,fr,to,m,sn,sd,sg⟩:Ed) ss=([],360):=applyE_no h24 (fun hk=>by first|exact h25 (by rw [← hu];exact hk.2.2.1)|(have:=hrt.1 hk.2.2.2;omega)|(have:=hrt.1 hk.2.2.2;have:=okR_iff2.2 this.2.1;omega))
     exact SX.VC_ret fun α W _ hR hS=>⟨hS.below,(.slice none 0 0),Eq.trans (b:=Ending.returned (.tuple #[(.slice none 0 0),.int .i64 360])) (by kernel_rfl) (by rw [hfact]),(by rw [hfact];exact SX.SlRet.nil)⟩
    try simp only [NRM]at h29
    have hfact:applyE (⟨6,role,other,fr,to,m,sn,sd,sg⟩:Ed) ss=([],360):=applyE_no h24 (fun hk=>by first|exact h25 (by rw [← hu];exact hk.2.2.1)|(have:=hrt.1 hk.2.2.2;omega)|(have:=hrt.1 hk.2.2.2;have:=okR_iff2.2 this.2.1;omega))
    exact SX.VC_ret fun α W _ hR hS=>⟨hS.below,(.slice none 0 0),Eq.trans (b:=Ending.returned (.tuple #[(.slice none 0 0),.int .i64 360])) (by kernel_rfl) (by rw [hfact]),(by rw [hfact];exact SX.SlRet.nil)⟩
   try simp only [NRM]at h28
   have hfact:applyE (⟨6,role,other,fr,to,m,sn,sd,sg⟩:Ed) ss=([],360):=applyE_no h24 (fun hk=>by first|exact h25 (by rw [← hu];exact hk.2.2.1)|(have:=hrt.1 hk.2.2.2;omega)|(have:=hrt.1 hk.2.2.2;have:=okR_iff2.2 this.2.1;omega))
   exact SX.VC_ret fun α W _ hR hS=>⟨hS.below,(.slice none 0 0),Eq.trans (b:=Ending.returned (.tuple #[(.slice none 0 0),.int .i64 360])) (by kernel_rfl) (by rw [hfact]),(by rw [hfact];exact SX.SlRet.nil)⟩
  try simp only [NRM]at h27
  have hfact:applyE (⟨6,role,other,fr,to,m,sn,sd,sg⟩:Ed) ss=([],360):=applyE_no h24 (fun hk=>by first|exact h25 (by rw [← hu];exact hk.2.2.1)|(have:=hrt.1 hk.2.2.2;omega)|(have:=hrt.1 hk.2.2.2;have:=okR_iff2.2 this.2.1;omega))
  exact SX.VC_ret fun α W _ hR hS=>⟨hS.below,(.slice none 0 0),Eq.trans (b:=Ending.returned (.tuple #[(.slice none 0 0),.int .i64 360])) (by kernel_rfl) (by rw [hfact]),(by rw [hfact];exact SX.SlRet.nil)⟩
 try simp only [NRM]at h26
 have hfact:applyE (⟨6,role,other,fr,to,m,sn,sd,sg⟩:Ed) ss=([],360):=applyE_no h24 (fun hk=>by first|exact h25 (by rw [← hu];exact hk.2.2.1)|(have:=hrt.1 hk.2.2.2;omega)|(have:=hrt.1 hk.2.2.2;have:=okR_iff2.2 this.2.1;omega))
 exact SX.VC_ret fun α W _ hR hS=>⟨hS.below,(.slice none 0 0),Eq.trans (b:=Ending.returned (.tuple #[(.slice none 0 0),.int .i64 360])) (by kernel_rfl) (by rw [hfact]),(by rw [hfact];exact SX.SlRet.nil)⟩
def tree_e0:SX.Tree :=
(.df (.call 14 [(.ext 14)]) [(.q 0)] .one
(.df (.bin .neq 31) [(.q 23),(.i 0)] .one
(.br 24 []
(.ret (.t [(.k (.slice none 0 0)),(.q 23)]) [none] [])
(.df (.bin .geq 3) [(.q 1),(.i 1)] .one
(.br 25 []
(.df (.bin .leq 3) [(.q 1),(.i 7)] .one
(.df .not [(.q 26)] .one
(.br 27 []
(.ret (.t [(.k (.slice none 0 0)),(.i 360)]) [none] []) (.bad 37 []))))
(.ret (.t [(.k (.slice none 0 0)),(.i 360)]) [none] []))))))
def args_e0:List SX.V:=[.x 0 [],.a ((List.range 22).map fun j=>.x (1+j) [])]
set_option maxRecDepth 100000 in
theorem run_e0(K A:Value→Nat→List Value→Prop):(SX.run (cxE2 K A) ⟨fun f=>f != 29,[],2,100⟩ 100000 0 (SX.door 12 Try.f12 args_e0 (List.replicate 23 .one)) [.code (Try.f12.body.getD .skip),.top Try.f12]).strip=tree_e0:=by kernel_rfl
set_option maxRecDepth 100000 in
set_option maxHeartbeats 4000000 in
theorem e0_any(ss:List Sg)(A:Option Addr)(n c:Nat)(d:Ed)(w:World)(hr:Rd w 14 A n (sgsL ss))(hn:n≤9223372036854775807)(hc:n≤c)(hd:¬ (1≤d.kind∧d.kind≤7)):Calls Try.prog 12 #[.slice A n c,valE d] w fun e w'=>Below w.heap.size w w'∧∃ hdr,e=.returned (.tuple #[hdr,.int .i64 (applyE d ss).2])∧SX.SlRet w w' [] hdr 14 (sgsL (applyE d ss).1):=by
 refine SX.calls_of_run (C:=cxE2 (fun s sz cells=>s=.slice A n c∧sz=14∧cells=sgsL ss) (fun _ _ _=>False)) (G:=⟨fun f=>f != 29,[],2,100⟩) (args:=args_e0) (sh:=(List.replicate 23 .one)) (ρ:=([.slice A n c]++cellsE d)) 100000 tree_e0 (okE2 _ _) Try.func12 rfl (run_e0 _ _) (by kernel_rfl) (by kernel_rfl) (by kernel_rfl) ?_ ?_
 ·rintro W hW s sz cells ⟨rfl,rfl,rfl⟩;exact⟨hr.same0 hW,hc⟩
 have hln:ss.length=n:=by have:=hr.1;rw [sgsL_len]at this;omega
 have k1:(fun s sz cells=>s=.slice A n c∧sz=14∧cells=sgsL ss) (Value.slice A n c) 14 (sgsL ss):=⟨rfl,rfl,rfl⟩
 unfold tree_e0
 refine SX.E (.int .i64 ((chkS ss))) (fun α=>⟨[⟨.slice A n c,14,sgsL ss⟩],⟨by kernel_rfl,rfl,cast (by kernel_rfl) k1,trivial⟩,.inl ⟨rfl,.slice A n c,ss,rfl,by omega,rfl⟩,SX.noAli rfl⟩) ?_
 refine SX.D (.bool (((chkS ss):Int) != 0)) ?_
 refine SX.B (((chkS ss):Int) != 0) (fun h24=>?_) (fun h24=>?_)
 ·try simp only [NRM]at h24
  have hfact:applyE d ss=([],chkS ss):=applyE_chk h24
  exact SX.VC_ret fun α W _ hR hS=>⟨hS.below,(.slice none 0 0),Eq.trans (b:=Ending.returned (.tuple #[(.slice none 0 0),.int .i64 ((chkS ss))])) (by kernel_rfl) (by rw [hfact]),(by rw [hfact];exact SX.SlRet.nil)⟩
 try simp only [NRM]at h24
 refine SX.D (.bool (decide (d.kind≥1))) ?_
 refine SX.B (decide (d.kind≥1)) (fun h25=>?_) (fun h25=>?_)
 ·try simp only [NRM]at h25
  refine SX.D (.bool (decide (d.kind≤7))) ?_
  refine SX.D (.bool (!(decide (d.kind≤7)))) ?_
  refine SX.B (!(decide (d.kind≤7))) (fun h27=>?_) (fun h27=>absurd (And.intro (by omega:(1:Int)≤d.kind) (by simpa using h27:d.kind≤7)) hd)
  try simp only [NRM]at h27
  have hfact:applyE d ss=([],360):=applyE_no h24 (fun hk=>hd ⟨hk.1,hk.2.1⟩)
  exact SX.VC_ret fun α W _ hR hS=>⟨hS.below,(.slice none 0 0),Eq.trans (b:=Ending.returned (.tuple #[(.slice none 0 0),.int .i64 360])) (by kernel_rfl) (by rw [hfact]),(by rw [hfact];exact SX.SlRet.nil)⟩
 try simp only [NRM]at h25
 have hfact:applyE d ss=([],360):=applyE_no h24 (fun hk=>hd ⟨hk.1,hk.2.1⟩)
 exact SX.VC_ret fun α W _ hR hS=>⟨hS.below,(.slice none 0 0),Eq.trans (b:=Ending.returned (.tuple #[(.slice none 0 0),.int .i64 360])) (by kernel_rfl) (by rw [hfact]),(by rw [hfact];exact SX.SlRet.nil)⟩
theorem apply_any(ss:List Sg)(A:Option Addr)(n c:Nat)(d:Ed)(w:World)(hr:Rd w 14 A n (sgsL ss))(hn:n≤9223372036854775807)(hc:n≤c)(hd:d.kind≠5):Calls Try.prog 12 #[.slice A n c,valE d] w fun e w'=>Below w.heap.size w w'∧∃ hdr,e=.returned (.tuple #[hdr,.int .i64 (applyE d ss).2])∧SX.SlRet w w' [] hdr 14 (sgsL (applyE d ss).1):=by
 by_cases h:1≤d.kind∧d.kind≤7
 ·obtain⟨k,a1,a2,a3,a4,a5,a6,a7,a8⟩:=d
  simp only at h hd
  have hk:k=1∨k=2∨k=3∨k=4∨k=6∨k=7:=by omega
  rcases hk with rfl|rfl|rfl|rfl|rfl|rfl
  ·exact e1_any ss A n c a1 a2 a3 a4 a5 a6 a7 a8 w hr hn hc
  ·exact e2_any ss A n c a1 a2 a3 a4 a5 a6 a7 a8 w hr hn hc
  ·exact e3_any ss A n c a1 a2 a3 a4 a5 a6 a7 a8 w hr hn hc
  ·exact e4_any ss A n c a1 a2 a3 a4 a5 a6 a7 a8 w hr hn hc
  ·exact e6_any ss A n c a1 a2 a3 a4 a5 a6 a7 a8 w hr hn hc
  exact e7_any ss A n c a1 a2 a3 a4 a5 a6 a7 a8 w hr hn hc
 exact e0_any ss A n c d w hr hn hc h
def tree_same:SX.Tree :=
(.df (.len false) [(.q 0)] .one
(.df (.len false) [(.q 1)] .one
(.df (.bin .neq 3) [(.q 2),(.q 3)] .one
(.br 4 []
(.ret (.k (.bool false)) [] [])
(.loop [(.i 0)] [.one]
(.df (.len false) [(.q 0)] .one
(.df (.bin .lss 3) [(.q 5),(.q 6)] .one
(.br 7 []
(.df .bnd [(.q 0),(.q 5)] .one
(.df (.elems 14 0 14) [(.q 0),(.q 5)] (.ag 14)
(.df .bnd [(.q 1),(.q 5)] .one
(.df (.elems 14 0 14) [(.q 1),(.q 5)] (.ag 14)
(.df (.eqr true 14 [(.i .i64),(.i .i64),(.i .i64),(.i .i64),(.i .i64),(.i .i64),(.i .i64),(.i .i64),(.i .i64),(.i .i64),(.i .i64),(.i .i64),(.i .i64),(.i .i64)]) (SX.Y 9 0 14++SX.Y 11 0 14) .one
(.br 12 []
(.ret (.k (.bool false)) [] [])
(.df (.bin .add 3) [(.q 5),(.i 1)] .one
(.again 0 [(.q 13)]))))))))
(.ret (.k (.bool true)) [] [])))))))))
def args_same:List SX.V:=[.x 0 [],.x 1 []]
set_option maxRecDepth 100000 in
theorem run_same(K A:Value→Nat→List Value→Prop):(SX.run (cx0 K A) ⟨fun _=>false,[⟨16,4,[(.s 5,.one)]⟩],0,100⟩ 100000 0 (SX.door 16 Try.f16 args_same [.one,.one]) [.code (Try.f16.body.getD .skip),.top Try.f16]).strip=tree_same:=by kernel_rfl
set_option maxRecDepth 100000 in
set_option maxHeartbeats 4000000 in
theorem same_any(ss tt:List Sg)(A A':Option Addr)(n c n' c':Nat)(w:World)(hr:Rd w 14 A n (sgsL ss))(hn:n≤9223372036854775807)(hc:n≤c)(hr':Rd w 14 A' n' (sgsL tt))(hn':n'≤9223372036854775807)(hc':n'≤c'):Calls Try.prog 16 #[.slice A n c,.slice A' n' c'] w fun e w'=>e=.returned (.bool (decide (ss=tt)))∧Below w.heap.size w w':=by
 refine SX.calls_of_run (C:=cx0 (fun s sz cells=>(s=.slice A n c∧sz=14∧cells=sgsL ss)∨(s=.slice A' n' c'∧sz=14∧cells=sgsL tt)) (fun _ _ _=>False)) (G:=⟨fun _=>false,[⟨16,4,[(.s 5,.one)]⟩],0,100⟩) (args:=args_same) (sh:=[.one,.one]) (ρ:=[.slice A n c,.slice A' n' c']) 100000 tree_same (cx0_ok _ _) Try.func16 rfl (run_same _ _) (by kernel_rfl) (by kernel_rfl) (by kernel_rfl) ?_ ?_
 ·rintro W hW s sz cells (⟨rfl,rfl,rfl⟩|⟨rfl,rfl,rfl⟩)
  ·exact⟨hr.same0 hW,hc⟩
  exact⟨hr'.same0 hW,hc'⟩
 have hA:=SX.rd_some hr
 have hln:ss.length=n:=by have:=hr.1;rw [sgsL_len]at this;omega
 have hA':=SX.rd_some hr'
 have hln':tt.length=n':=by have:=hr'.1;rw [sgsL_len]at this;omega
 unfold tree_same
 refine SX.D (.int .i64 (((n:Nat):Int))) ?_
 refine SX.D (.int .i64 (((n':Nat):Int))) ?_
 refine SX.D (.bool ((((n:Nat):Int):Int) != ((n':Nat):Int))) ?_
 refine SX.B ((((n:Nat):Int):Int) != ((n':Nat):Int)) (fun h4=>?_) (fun h4=>?_)
 ·try simp only [NRM]at h4
  exact SX.F (.bool false) (by congr 1;symm;first|(rw [decide_eq_false_iff_not];rintro rfl;omega)|(rw [decide_eq_false_iff_not];rintro rfl;rw [hy]at hz;cases hz;simp at h12)|(have hi:i=n:=(by omega);subst hi;rw [List.take_of_length_le (by omega),List.take_of_length_le (by omega)]at htk;rw [decide_eq_true_eq];exact htk))
 try simp only [NRM]at h4
 refine SX.VC_loop (fun xs=>∃ i:Nat,xs=[.int .i64 (i:Int)]∧i≤n∧ss.take i=tt.take i) (fun xs=>match xs with|[.int _ i]=>n-i.toNat|_=>0) (fun α=>⟨0,by kernel_rfl,by omega,by simp⟩) ?_
 rintro xs-⟨i,rfl,hin,htk⟩
 refine SX.D (.int .i64 (((n:Nat):Int))) ?_
 refine SX.D (.bool (decide (((i:Nat):Int)<((n:Nat):Int)))) ?_
 refine SX.B (decide (((i:Nat):Int)<((n:Nat):Int))) (fun h7=>?_) (fun h7=>?_)
 ·try simp only [NRM]at h7
  obtain⟨y,hy⟩:∃ z,ss[i]?=some z:=⟨_,List.getElem?_eq_getElem (by omega)⟩
  obtain⟨z,hz⟩:∃ z,tt[i]?=some z:=⟨_,List.getElem?_eq_getElem (by omega)⟩
  refine SX.E (.bool true) (fun α=>SX.extBnd (A:=A) (n:=n) (c:=c) (j:=i) hA (by kernel_rfl) (by kernel_rfl) (by omega)) ?_
  refine SX.E (.agg (cellsSg y).toArray) (fun α=>SX.extElems (f:=cellsSg) (l:=ss) (A:=A) (n:=n) (c:=c) (j:=i) (z:=y) (fun _=>rfl) hA (by kernel_rfl) (by kernel_rfl) (by omega) (.inl ⟨rfl,rfl,rfl⟩) hy) ?_
  refine SX.E (.bool true) (fun α=>SX.extBnd (A:=A') (n:=n') (c:=c') (j:=i) hA' (by kernel_rfl) (by kernel_rfl) (by omega)) ?_
  refine SX.E (.agg (cellsSg z).toArray) (fun α=>SX.extElems (f:=cellsSg) (l:=tt) (A:=A') (n:=n') (c:=c') (j:=i) (z:=z) (fun _=>rfl) hA' (by kernel_rfl) (by kernel_rfl) (by omega) (.inr ⟨rfl,rfl,rfl⟩) hz) ?_
  refine SX.E (.bool (true ^^ decide (y=z))) (fun α=>SX.eqr_rel (f:=cellsSg) cellsSg_inj (y:=y) (z:=z) (by kernel_rfl) (by kernel_rfl) (by kernel_rfl)) ?_
  refine SX.B (true ^^ decide (y=z)) (fun h12=>?_) (fun h12=>?_)
  ·try simp only [NRM]at h12
   exact SX.F (.bool false) (by congr 1;symm;first|(rw [decide_eq_false_iff_not];rintro rfl;omega)|(rw [decide_eq_false_iff_not];rintro rfl;rw [hy]at hz;cases hz;simp at h12)|(have hi:i=n:=(by omega);subst hi;rw [List.take_of_length_le (by omega),List.take_of_length_le (by omega)]at htk;rw [decide_eq_true_eq];exact htk))
  try simp only [NRM]at h12
  refine SX.E (.int .i64 (((i+1:Nat):Int))) (fun α=>SX.W1 i) ?_
  exact SX.VC_again fun α=>⟨⟨i+1,by kernel_rfl,by omega,by rw [List.take_add_one,List.take_add_one,htk,hy,hz,h12]⟩,cast (by kernel_rfl) (show n-((i+1:Nat):Int).toNat<n-(i:Int).toNat by omega)⟩
 try simp only [NRM]at h7
 exact SX.F (.bool true) (by congr 1;symm;first|(rw [decide_eq_false_iff_not];rintro rfl;omega)|(rw [decide_eq_false_iff_not];rintro rfl;rw [hy]at hz;cases hz;simp at h12)|(have hi:i=n:=(by omega);subst hi;rw [List.take_of_length_le (by omega),List.take_of_length_le (by omega)]at htk;rw [decide_eq_true_eq];exact htk))
def RC1(f:FuncId)(xs:List SX.Arg)(v:Value):Prop :=
 (f=39∧∃ (u:Value) (ss:List Sg),xs=[⟨u,14,sgsL ss⟩]∧ss.length≤9223372036854775807∧v=.bool (decide (okL ss)))
def shpC1:FuncId→Option SX.Sh:=fun f=>if f=39 then some .one else none
noncomputable def cxC1(K A:Value→Nat→List Value→Prop):SX.Cx:={ P:=Try.prog,R:=fun _=>RC1,shp:=shpC1,K:=K,A:=A }
theorem okC1(K A:Value→Nat→List Value→Prop):(cxC1 K A).Ok:=by
 refine SX.Cx.ok_of (fun _=>rfl) ?_
 intro K f xs v W hR hrd hKf
 rcases hR with ⟨rfl,u,ss,rfl,hl,rfl⟩
 have h1:=hrd ⟨u,14,sgsL ss⟩ (by simp)
 unfold SX.Arg.rd at h1
 split at h1
 ·rename_i A n cap hu
  have hu:u=.slice A n cap:=hu
  subst hu
  have hn:n≤9223372036854775807:=by have:=h1.1.1;simp only [sgsL_len]at this;omega
  exact(right_any ss A n cap W h1.1 hn h1.2).mono fun e w' h=>SX.plainOk rfl h
 cases h1
def tree_lright:SX.Tree :=
(.df (.len false) [(.q 0)] .one
(.df (.bin .leq 3) [(.q 1),(.i 200)] .one
(.br 2 []
(.df (.call 39 [(.ext 14)]) [(.q 0)] .one
(.ret (.q 3) [] []))
(.ret (.k (.bool false)) [] []))))
def args_lright:List SX.V:=[.x 0 []]
set_option maxRecDepth 100000 in
theorem run_lright(K A:Value→Nat→List Value→Prop):(SX.run (cxC1 K A) ⟨fun f=>true,[],0,100⟩ 100000 0 (SX.door 20 Try.f20 args_lright [.one]) [.code (Try.f20.body.getD .skip),.top Try.f20]).strip=tree_lright:=by kernel_rfl
set_option maxRecDepth 100000 in
set_option maxHeartbeats 4000000 in
theorem lright_any(ss:List Sg)(A:Option Addr)(n c:Nat)(w:World)(hr:Rd w 14 A n (sgsL ss))(hn:n≤9223372036854775807)(hc:n≤c):Calls Try.prog 20 #[.slice A n c] w fun e w'=>e=.returned (.bool (decide (ss.length≤200∧okL ss)))∧Below w.heap.size w w':=by
 refine SX.calls_of_run (C:=cxC1 (fun s sz cells=>s=.slice A n c∧sz=14∧cells=sgsL ss) (fun _ _ _=>False)) (G:=⟨fun f=>true,[],0,100⟩) (args:=args_lright) (sh:=[.one]) (ρ:=[.slice A n c]) 100000 tree_lright (okC1 _ _) Try.func20 rfl (run_lright _ _) (by kernel_rfl) (by kernel_rfl) (by kernel_rfl) ?_ ?_
 ·rintro W hW s sz cells ⟨rfl,rfl,rfl⟩;exact⟨hr.same0 hW,hc⟩
 have hln:ss.length=n:=by have:=hr.1;rw [sgsL_len]at this;omega
 have k1:(fun s sz cells=>s=.slice A n c∧sz=14∧cells=sgsL ss) (Value.slice A n c) 14 (sgsL ss):=⟨rfl,rfl,rfl⟩
 unfold tree_lright
 refine SX.D (.int .i64 (((n:Nat):Int))) ?_
 refine SX.D (.bool (decide (((n:Nat):Int)≤200))) ?_
 refine SX.B (decide (((n:Nat):Int)≤200)) (fun h2=>?_) (fun h2=>?_)
 ·try simp only [NRM]at h2
  refine SX.E (.bool (decide (okL ss))) (fun α=>⟨[⟨.slice A n c,14,sgsL ss⟩],⟨by kernel_rfl,rfl,cast (by kernel_rfl) k1,trivial⟩,⟨rfl,.slice A n c,ss,rfl,by omega,rfl⟩,SX.noAli rfl⟩) ?_
  exact SX.F (.bool (decide (okL ss))) (by by_cases hk:okL ss<;>by_cases h9:ss.length≤200<;>simp [hk,h9]<;>omega)
 try simp only [NRM]at h2
 exact SX.F (.bool false) (by by_cases hk:okL ss<;>by_cases h9:ss.length≤200<;>simp [hk,h9]<;>omega)
theorem SX.SlRet.ok0{C:SX.Cx}{f:FuncId}{as':List SX.Arg}{W W':World}{e:Ending}{k:Int}{cells:List Value}{sz:Nat}(hs:C.sh f=.tp [.sl sz,.one])(h:Below W.heap.size W W'∧∃ hdr,e=.returned (.tuple #[hdr,.int .i64 k])∧SX.SlRet W W' [] hdr sz cells) :
 Below W.heap.size W W'∧∃ hdr,e=.returned ((C.sh f).fill hdr (.tuple #[.agg cells.toArray,.int .i64 k]))∧∀ p z,(p,z)∈(C.sh f).sls []→SX.HdrOk C f as' W W' hdr z (SX.cellsV (p.foldl SX.comp (.tuple #[.agg cells.toArray,.int .i64 k]))):=by
 obtain⟨hb,hdr,he,h1,h2,h3⟩:=h
 refine⟨hb,hdr,by rw [hs,he];rfl,fun p z hp=>?_⟩
 rw [hs]at hp
 obtain⟨rfl,rfl⟩:p=[0]∧z=sz:=by simpa [SX.Sh.sls,SX.Sh.slsL]using hp
 refine⟨h1,h2,.inl (h3.resolve_right ?_)⟩
 rintro⟨y,hy,_⟩
 cases hy
def setF(x:Sg)(f:Int)(y:Sg):Sg:=if f=1 then {x with role:=y.role}else if f=2 then {x with bar:=y.bar}else if f=3 then {x with mark:=y.mark}else if f=4 then {x with side:=y.side}else if f=5 then {x with dir:=y.dir}else if f=6 then {x with level:=y.level}else if f=7 then {x with size:=y.size}else if f=8 then {x with with_:=y.with_}else if f=9 then {x with fn:=y.fn,fd:=y.fd,tn:=y.tn,td:=y.td}else x
structure Pt where
 (id kind sign field:Int)
 new:Sg
 needs:List Int
 deriving DecidableEq,Inhabited
def cellsP(p:Pt)(h:Value):List Value:=[.int .i64 p.id,.int .i64 p.kind,.int .i64 p.sign,.int .i64 p.field]++cellsSg p.new++[h]
abbrev Ph:=Pt×Option Addr×Nat×Nat
def Ph.h(q:Ph):Value:=.slice q.2.1 q.2.2.1 q.2.2.2
def cellsH(q:Ph):List Value:=cellsP q.1 q.h
def phL(l:List Ph):List Value:=l.flatMap cellsH
theorem phL_len(l:List Ph):(phL l).length=l.length*19:=SX.flat_len (f:=cellsH) (fun _=>rfl) l
def cellsI(x:Int):List Value:=[.int .i64 x]
def intsL(l:List Int):List Value:=l.flatMap cellsI
theorem intsL_len(l:List Int):(intsL l).length=l.length*1:=SX.flat_len (f:=cellsI) (fun _=>rfl) l
namespace SX
section
variable {C:Cx}{ρ:List Value}{α:Nat→AV}{sz k:Nat}{i:V}
theorem rlenD{β:Type}{f:β→List Value}(hf:∀ a,(f a).length=sz)(h0:0<sz){l:List β}{cc:V}(hc:cellsV (cc.den ρ α)=l.flatMap f):Opq.rel C ρ α (.rlen sz) [cc] (.int .i64 ((l.length:Nat):Int)):=by
 show Value.int .i64 ((l.length:Nat):Int)=.int .i64 (((cellsV (cc.den ρ α)).length / sz:Nat):Int)
 rw [hc,flat_len hf,Nat.mul_div_cancel _ h0]
theorem relemD{β:Type}{f:β→List Value}(hf:∀ a,(f a).length=sz)(h0:0<sz){l:List β}{cc:V}{z:β}{o:Nat}{v:Value}(hc:cellsV (cc.den ρ α)=l.flatMap f)(hi:i.den ρ α=.int .i64 (k:Int))(hz:l[k]?=some z)(ho:(f z)[o]?=some v):Opq.rel C ρ α (.relem sz o) [cc,i] v:=by
 have hk:=(List.getElem?_eq_some_iff.1 hz).1
 refine⟨(row_bnd (C:=C) hf h0 hc hi hk).1,?_⟩
 rw [hc,hi]
 show(l.flatMap f)[(k:Int).toNat*sz+o]?=some v
 rw [Int.toNat_natCast,← List.getElem?_drop,flat_elem hf hz,List.getElem?_append_left (List.getElem?_eq_some_iff.1 ho).1]
 exact ho
theorem rsetD{β:Type}{f:β→List Value}(hf:∀ a,(f a).length=sz)(h0:0<sz){l:List β}{cc x:V}{y z:β}{o:Nat}(hc:cellsV (cc.den ρ α)=l.flatMap f)(hi:i.den ρ α=.int .i64 (k:Int))(hy:l[k]?=some y)(ho:o+1≤sz)(hz:f z=(f y).take o++x.den ρ α::(f y).drop (o+1)):Opq.rel C ρ α (.rset sz o) [cc,i,x] (.agg ((l.set k z).flatMap f).toArray):=by
 have hk:=(List.getElem?_eq_some_iff.1 hy).1
 refine⟨(row_bnd (C:=C) hf h0 hc hi hk).1,ho,?_⟩
 rw [hc,hi]
 show _=Value.agg ((l.flatMap f).take ((k:Int).toNat*sz+o)++[x.den ρ α]++(l.flatMap f).drop ((k:Int).toNat*sz+o+1)).toArray
 rw [Int.toNat_natCast]
 have hl:l.flatMap f=(l.take k).flatMap f++(f y++(l.drop (k+1)).flatMap f):=by
  conv=>lhs;rw [← List.take_append_drop k l,List.drop_eq_getElem_cons hk]
  rw [List.flatMap_append,List.flatMap_cons,(List.getElem?_eq_some_iff.1 hy).2]
 have hn:((l.take k).flatMap f).length=k*sz:=by rw [flat_len hf,List.length_take,Nat.min_eq_left (by omega)]
 have hyl:=hf y
 have e1:((l.take k).flatMap f).take (k*sz+o)=(l.take k).flatMap f:=List.take_of_length_le (by rw [hn];omega)
 have e2:((l.take k).flatMap f).drop (k*sz+o+1)=[]:=List.drop_of_length_le (by rw [hn];omega)
 rw [hl,List.take_append,List.drop_append,hn,e1,e2,show k*sz+o-k*sz=o by omega,show k*sz+o+1-k*sz=o+1 by omega,List.take_append_of_le_length (by omega),List.drop_append_of_le_length (by omega),List.set_eq_take_append_cons_drop,if_pos hk,List.flatMap_append,List.flatMap_cons,hz]
 simp
theorem slcxD{β:Type}{f:β→List Value}(hf:∀ a,(f a).length=sz)(h0:0<sz){l:List β}{cc:V}(hc:cellsV (cc.den ρ α)=l.flatMap f)(hi:i.den ρ α=.int .i64 (k:Int))(hk:k≤l.length):Opq.rel C ρ α (.slcx sz true false) [cc,i] (.agg ((l.drop k).flatMap f).toArray):=by
 refine⟨k,l.length,l.length,some (.int .i64 (k:Int)),none,by simp [denL,optsV,hi],?_,?_⟩
 ·rw [hc,flat_len hf,Nat.mul_div_cancel _ h0]
  simp [boundsV,bndV,hk]
 rw [hc,flat_drop hf,List.take_of_length_le (by rw [flat_len hf,List.length_drop];exact Nat.le_refl _)]
end
end SX
theorem cellsP_one(p:Pt)(h:Value)(hh:h.oneCell'=true):∀ u∈cellsP p h,u.oneCell'=true:=by
 intro u hu
 simp only [cellsP,List.mem_append,List.mem_cons,List.not_mem_nil,or_false]at hu
 rcases hu with ((rfl|rfl|rfl|rfl)|h1)|rfl
 ·rfl
 ·rfl
 ·rfl
 ·rfl
 ·exact cellsSg_one _ u h1
 exact hh
theorem cellsH_one(q:Ph):∀ u∈cellsH q,u.oneCell'=true:=cellsP_one q.1 q.h rfl
def nilP(p:Pt):Ph:=(p,none,0,0)
def nilL(l:List Pt):List Ph:=l.map nilP
def remP(x:Sg):Pt:=⟨0,3,x.id,0,zeroSg,[]⟩
def insP(y:Sg):Pt:=⟨0,2,y.id,0,y,[]⟩
def chF(x y:Sg)(f:Int):List Pt:=if setF zeroSg f x=setF zeroSg f y then []else [⟨0,1,x.id,f,setF zeroSg f y,[]⟩]
def chT(x y:Sg):Nat→List Pt
 | 0=>[]
 | k+1=>chT x y k++chF x y ((k+1:Nat):Int)
def chP(x y:Sg):List Pt:=chT x y 9
theorem chF_len(x y:Sg)(f:Int):(chF x y f).length≤1:=by unfold chF;split<;>simp
theorem chT_len(x y:Sg)(k:Nat):(chT x y k).length≤k:=by
 induction k with
 | zero=>simp [chT]
 | succ k ih =>
  have:=chF_len x y ((k+1:Nat):Int)
  simp only [chT,List.length_append]
  omega
theorem chT_same{x y:Sg}{k:Nat}(h:setF zeroSg ((k+1:Nat):Int) x=setF zeroSg ((k+1:Nat):Int) y):chT x y (k+1)=chT x y k:=by
 show chT x y k++chF x y ((k+1:Nat):Int)=_
 unfold chF;rw [if_pos h,List.append_nil]
theorem chT_other{x y:Sg}{k:Nat}(h:setF zeroSg ((k+1:Nat):Int) x≠setF zeroSg ((k+1:Nat):Int) y):chT x y (k+1)=chT x y k++[⟨0,1,x.id,((k+1:Nat):Int),setF zeroSg ((k+1:Nat):Int) y,[]⟩]:=by
 show chT x y k++chF x y ((k+1:Nat):Int)=_
 unfold chF;rw [if_neg h]
def mrg:List Sg→List Sg→Option (List Pt)
 | [],[]=>some []
 | x::a,[]=>(mrg a []).map (remP x::·)
 | [],y::b=>(mrg [] b).map (insP y::·)
 | x::a,y::b=>if x.id<y.id then(mrg a (y::b)).map (remP x::·)else if y.id<x.id then(mrg (x::a) b).map (insP y::·)else if x.kind≠y.kind then none else(mrg a b).map (chP x y++·)
 termination_by a b=>a.length+b.length
theorem mrg_nil:mrg [] []=some []:=by unfold mrg;rfl
theorem mrg_rm{x:Sg}{a b:List Sg}(h:∀ y,b[0]?=some y→x.id<y.id):mrg (x::a) b=(mrg a b).map (remP x::·):=by
 cases b with
 | nil=>conv=>lhs;unfold mrg
 | cons y b =>
  conv=>lhs;unfold mrg
  rw [if_pos (h y rfl)]
theorem mrg_in{y:Sg}{a b:List Sg}(h:∀ x,a[0]?=some x→y.id<x.id):mrg a (y::b)=(mrg a b).map (insP y::·):=by
 cases a with
 | nil=>conv=>lhs;unfold mrg
 | cons x a =>
  have:=h x rfl
  conv=>lhs;unfold mrg
  rw [if_neg (by omega),if_pos this]
theorem mrg_no{x y:Sg}{a b:List Sg}(h:x.id=y.id)(hk:x.kind≠y.kind):mrg (x::a) (y::b)=none:=by
 unfold mrg
 rw [if_neg (by omega),if_neg (by omega),if_pos hk]
theorem mrg_ch{x y:Sg}{a b:List Sg}(h:x.id=y.id)(hk:x.kind=y.kind):mrg (x::a) (y::b)=(mrg a b).map (chP x y++·):=by
 conv=>lhs;unfold mrg
 rw [if_neg (by omega),if_neg (by omega),if_neg (by simp [hk])]
def incrTo(l:List Int)(lo hi:Int)(k:Nat):Prop:=∀ (j:Nat) (x:Int),j<k→l[j]?=some x→lo≤x∧x≤hi∧∀ y,0<j→l[j-1]?=some y→y<x
def incr(l:List Int)(lo hi:Int):Prop:=incrTo l lo hi l.length
noncomputable def incrB(l:List Int)(lo hi:Int):Bool:=@decide (incr l lo hi) (Classical.propDecidable _)
theorem incrB_yes{l:List Int}{lo hi:Int}(h:incr l lo hi):incrB l lo hi=true:=by unfold incrB;exact @decide_eq_true _ (Classical.propDecidable _) h
theorem incrB_no{l:List Int}{lo hi:Int}(h:¬ incr l lo hi):incrB l lo hi=false:=by unfold incrB;exact @decide_eq_false _ (Classical.propDecidable _) h
theorem incrTo_zero{l:List Int}{lo hi:Int}:incrTo l lo hi 0:=fun j x hj=>absurd hj (by omega)
theorem incrTo_succ{l:List Int}{lo hi:Int}{k:Nat}{x:Int}(h:incrTo l lo hi k)(hx:l[k]?=some x)(h1:lo≤x)(h2:x≤hi)(h3:∀ y,0<k→l[k-1]?=some y→y<x):incrTo l lo hi (k+1):=fun j z hj hz=>by
 by_cases e:j=k
 ·subst e;rw [hx]at hz;cases hz;exact⟨h1,h2,h3⟩
 exact h j z (by omega) hz
theorem incrTo_no{l:List Int}{lo hi:Int}{k:Nat}{x:Int}(hx:l[k]?=some x)(h:¬ (lo≤x∧x≤hi∧∀ y,0<k→l[k-1]?=some y→y<x)):¬ incr l lo hi:=fun hi2=>h (hi2 k x (List.getElem?_eq_some_iff.1 hx).1 hx)
def num(first:Int)(needs:List Int):Nat→List Pt→List Pt
 | _,[]=>[]
 | k,p::l=>{p with id:=first+(k:Int),needs:=needs}::num first needs (k+1) l
theorem num_len(first:Int)(needs:List Int)(k:Nat)(l:List Pt):(num first needs k l).length=l.length:=by
 induction l generalizing k with
 | nil=>rfl
 | cons p l ih=>simp [num,ih]
noncomputable def diffR(a b:List Sg)(first:Int)(needs:List Int):List Pt×Int :=
 if chkS a≠0 then([],chkS a)else if chkS b≠0 then([],chkS b)else if 32<needs.length then([],2)
 else if(decide (1≤first∧first≤1048576) && incrB needs 1 (first-1))=false then([],360)
 else match mrg a b with
  | none=>([],360)
  | some l=>if 512<l.length∨1048576<first+(l.length:Int)-1 then([],2)else(num first needs 0 l,0)
theorem diffR_a{a b:List Sg}{first:Int}{needs:List Int}(h:chkS a≠0):diffR a b first needs=([],chkS a):=by unfold diffR;rw [if_pos h]
theorem diffR_b{a b:List Sg}{first:Int}{needs:List Int}(h:chkS a=0)(h2:chkS b≠0):diffR a b first needs=([],chkS b):=by unfold diffR;rw [if_neg (by simp [h]),if_pos h2]
theorem diffR_n{a b:List Sg}{first:Int}{needs:List Int}(h:chkS a=0)(h2:chkS b=0)(h3:32<needs.length):diffR a b first needs=([],2):=by unfold diffR;rw [if_neg (by simp [h]),if_neg (by simp [h2]),if_pos h3]
theorem diffR_i{a b:List Sg}{first:Int}{needs:List Int}(h:chkS a=0)(h2:chkS b=0)(h3:¬ 32<needs.length)(h4:¬ ((1≤first∧first≤1048576)∧incr needs 1 (first-1))):diffR a b first needs=([],360):=by
 unfold diffR
 rw [if_neg (by simp [h]),if_neg (by simp [h2]),if_neg h3,if_pos]
 by_cases h5:1≤first∧first≤1048576
 ·rw [incrB_no fun h6=>h4 ⟨h5,h6⟩,Bool.and_false]
 simp only [decide_eq_false h5,Bool.false_and]
theorem diffR_m{a b:List Sg}{first:Int}{needs:List Int}(h:chkS a=0)(h2:chkS b=0)(h3:¬ 32<needs.length)(h4:(1≤first∧first≤1048576)∧incr needs 1 (first-1)):diffR a b first needs=match mrg a b with
 | none=>([],360)
 | some l=>if 512<l.length∨1048576<first+(l.length:Int)-1 then([],2)else(num first needs 0 l,0):=by
 unfold diffR
 rw [if_neg (by simp [h]),if_neg (by simp [h2]),if_neg h3,if_neg]
 rw [incrB_yes h4.2,decide_eq_true h4.1]
 simp
theorem ints_arg{W:World}{u:Value}{l:List Int}(h:SX.Arg.rd W ⟨u,1,intsL l⟩):∃ A n c,u=.slice A n c∧Rd W 1 A n (intsL l)∧n≤c∧l.length=n:=by
 unfold SX.Arg.rd at h
 split at h
 ·rename_i A n c hu
  have hu:u=.slice A n c:=hu
  refine⟨A,n,c,hu,h.1,h.2,?_⟩
  have:=h.1.1;simp only [intsL_len]at this;omega
 cases h
def tree_cloneI:SX.Tree :=
(.df (.snil false) [(.q 0)] .one
(.br 1 []
(.ret (.k (.slice none 0 0)) [] [])
(.df (.app 1 8 (.ext 1)) [(.cat []),(.q 0)] .any
(.ret (.row 1) [none,(some ⟨[(.q 2)],3,(.row 1)⟩)] []))))
def args_cloneI:List SX.V:=[.x 0 []]
set_option maxRecDepth 100000 in
theorem run_cloneI(K A:Value→Nat→List Value→Prop):(SX.run (cx0 K A) ⟨fun f=>true,[],2,100⟩ 100000 0 (SX.door 43 Try.f43 args_cloneI [.one]) [.code (Try.f43.body.getD .skip),.top Try.f43]).strip=tree_cloneI:=by kernel_rfl
set_option maxRecDepth 100000 in
set_option maxHeartbeats 4000000 in
theorem cloneI_any(l:List Int)(A:Option Addr)(n c:Nat)(w:World)(hr:Rd w 1 A n (intsL l))(hc:n≤c)(hn:n≤1000000):Calls Try.prog 43 #[.slice A n c] w fun e w'=>Below w.heap.size w w'∧∃ hdr,e=.returned hdr∧SX.SlRet w w' [] hdr 1 (intsL l):=by
 refine SX.calls_of_run (C:=cx0 (fun s sz cells=>s=.slice A n c∧sz=1∧cells=intsL l) (fun _ _ _=>False)) (G:=⟨fun f=>true,[],2,100⟩) (args:=args_cloneI) (sh:=[.one]) (ρ:=[.slice A n c]) 100000 tree_cloneI (cx0_ok _ _) Try.func43 rfl (run_cloneI _ _) (by kernel_rfl) (by kernel_rfl) (by kernel_rfl) ?_ ?_
 ·rintro W hW s sz cells ⟨rfl,rfl,rfl⟩;exact⟨hr.same0 hW,hc⟩
 have hA:=SX.rd_some hr
 have hln:l.length=n:=by have:=hr.1;rw [intsL_len]at this;omega
 unfold tree_cloneI
 refine SX.E (.bool (false ^^ A.isNone)) (fun α=>⟨A,n,c,by kernel_rfl,rfl⟩) ?_
 refine SX.B (false ^^ A.isNone) (fun h1=>?_) (fun h1=>?_)
 ·have hA0:A=none:=by cases A<;>simp_all
  have hn0:n=0:=by
   rcases Nat.eq_zero_or_pos n with h|h
   ·exact h
   ·have:=hA h;rw [hA0]at this;cases this
  have hl0:l=[]:=List.length_eq_zero_iff.1 (by omega)
  subst hl0
  exact SX.VC_ret fun α W _ _ hS=>⟨hS.below,_,rfl,SX.SlRet.nil⟩
 refine SX.VC_df (.agg (intsL l).toArray) (fun α=>SX.app_rel (f:=cellsI) (l1:=[]) (l2:=l) (fun _=>rfl) (fun a u hu=>by obtain rfl:=List.mem_singleton.1 hu;rfl) (by decide) (by kernel_rfl) (SX.src_ext ⟨rfl,rfl,rfl⟩) (by simp;omega) (by simp;omega)) rfl ?_
 exact SX.VC_ret fun α W _ hrow hS=>⟨hS.below,_,by kernel_rfl,SX.SlRet.row hS (n:=1) (b:=(⟨[(.x 2 [])],3,(.row 1)⟩:SX.Blk)) (by kernel_rfl) rfl (hrow 1 _ (by kernel_rfl)) (Eq.trans (b:=[Value.agg (intsL l).toArray].flatMap SX.cellsV) (by kernel_rfl) (by simp [SX.cellsV]))⟩
theorem phL_app(l m:List Ph):phL (l++m)=phL l++phL m:=by simp [phL]
end Go.Proofs.Ytnaooclbphaelaa
