/-
  The statement 'SealsForce' as its tied card: for every input the law returns true, and each argument reads as it read before; the listed variables are as the program's text lays them. No other condition.
-/
import Derived.Test.YtidekfgkpindbaaDoorSI7
import Derived.Test.YtidekfgkpindbaaDoorCards
import Derived.Test.YtidekfgkpindbaaDoorTie
import Derived.SevenTiedAt
set_option linter.unusedSimpArgs false
set_option linter.unusedVariables false
namespace Go.Proofs.YtidekfgkpindbaaDoor
open Go Go.RowKit
def cellsBd(b:Bod.Bd):List Value:=[.string b.name,.int .i64 b.weight,.int .i64 b.lift,.int .i64 b.girth,.int .i64 b.step,.int .i64 b.jump,.int .i64 b.r0,.int .i64 b.r1,.int .i64 b.r2,.int .i64 b.s0,.int .i64 b.s1,.int .i64 b.s2,.int .i64 b.t0,.int .i64 b.t1,.int .i64 b.t2,.int .i64 b.effort,.int .i64 b.recover]
def valBd(b:Bod.Bd):Value:=.agg (cellsBd b).toArray
def cellsCp(c:Bod.Cp):List Value:=[.int .i64 c.kind,.int .i64 c.limb,.int .i64 c.n]
def valCp(c:Bod.Cp):Value:=.agg (cellsCp c).toArray
def cpL(l:List Bod.Cp):List Value:=l.flatMap cellsCp
theorem cpL_len(l:List Bod.Cp):(cpL l).length=l.length*3:=SX.flat_len (f:=cellsCp) (fun _=>rfl) l
theorem capOk_ok(c:Bod.Cp):decide (capOk c.kind c.limb c.n)=c.ok:=by
 obtain⟨k,l,n⟩:=c
 rw [Bool.eq_iff_iff,decide_eq_true_eq]
 by_cases hk:1≤k∧k≤6
 ·have:k=1∨k=2∨k=3∨k=4∨k=5∨k=6:=by omega
  rcases this with rfl|rfl|rfl|rfl|rfl|rfl<;>simp [capOk,Bod.Cp.ok,Bod.Cp.inR,Bod.inB,Bod.rlimb,Bod.rlo,Bod.rhi,Bod.Cp.r]<;>omega
 constructor
 ·intro h;exfalso;unfold capOk at h;dsimp only at h;omega
 intro h;simp [Bod.Cp.ok,Bod.inB]at h;omega
def RF0(f:FuncId)(xs:List SX.Arg)(v:Value):Prop :=
 (f=54∧∃ s:ByteArray,xs=[⟨.string s,0,[]⟩]∧s.size≤maxLen∧v=.bool (Bod.nameB s.data.toList))
def shpF0:FuncId→Option SX.Sh:=fun f=>if f=54 then some .one else none
noncomputable def cxF0(K A:Value→Nat→List Value→Prop):SX.Cx:={ P:=Tryd.prog,R:=fun _=>RF0,shp:=shpF0,K:=K,A:=A,trm:=true,tl:=[55] }
theorem okF0(K A:Value→Nat→List Value→Prop):(cxF0 K A).Ok:=by
 refine SX.Cx.ok_of (fun _=>rfl) ?_
 intro K f xs v W hR hrd hKf
 rcases hR with ⟨rfl,s,rfl,hs,rfl⟩
 exact(name_any s W hs).mono fun e w' h=>SX.plainOk rfl ⟨h.1,h.2▸Below.refl _ _⟩
def tree_bCheck:SX.Tree :=
(.df (.call 54 [.no]) [(.q 0)] .one
(.df .not [(.q 17)] .one
(.br 18 []
(.ret (.i 250) [] [])
(.df (.bin .lss 3) [(.q 1),(.i 1)] .one
(.br 19 []
(.ret (.i 250) [] [])
(.df (.bin .gtr 3) [(.q 1),(.i 500)] .one
(.br 20 []
(.ret (.i 250) [] [])
(.df (.bin .lss 3) [(.q 3),(.i 1)] .one
(.br 21 []
(.ret (.i 250) [] [])
(.df (.bin .gtr 3) [(.q 3),(.i 4)] .one
(.br 22 []
(.ret (.i 250) [] [])
(.df (.bin .lss 3) [(.q 6),(.i 1)] .one
(.br 23 []
(.ret (.i 250) [] [])
(.df (.bin .gtr 3) [(.q 6),(.i 8)] .one
(.br 24 []
(.ret (.i 250) [] [])
(.df (.bin .lss 3) [(.q 7),(.i 1)] .one
(.br 25 []
(.ret (.i 250) [] [])
(.df (.bin .gtr 3) [(.q 7),(.i 8)] .one
(.br 26 []
(.ret (.i 250) [] [])
(.df (.bin .lss 3) [(.q 8),(.i 1)] .one
(.br 27 []
(.ret (.i 250) [] [])
(.df (.bin .gtr 3) [(.q 8),(.i 8)] .one
(.br 28 []
(.ret (.i 250) [] [])
(.df (.bin .lss 3) [(.q 16),(.i 0)] .one
(.br 29 []
(.ret (.i 250) [] [])
(.df (.bin .gtr 3) [(.q 16),(.i 1048576)] .one
(.br 30 []
(.ret (.i 250) [] [])
(.df (.bin .lss 3) [(.q 12),(.i 1)] .one
(.br 31 []
(.ret (.i 250) [] [])
(.df (.bin .gtr 3) [(.q 12),(.i 3)] .one
(.br 32 []
(.ret (.i 250) [] [])
(.df (.bin .lss 3) [(.q 13),(.i 1)] .one
(.br 33 []
(.ret (.i 250) [] [])
(.df (.bin .gtr 3) [(.q 13),(.i 3)] .one
(.br 34 []
(.ret (.i 250) [] [])
(.df (.bin .lss 3) [(.q 14),(.i 1)] .one
(.br 35 []
(.ret (.i 250) [] [])
(.df (.bin .gtr 3) [(.q 14),(.i 3)] .one
(.br 36 []
(.ret (.i 250) [] [])
(.df (.bin .lss 3) [(.q 9),(.i 1)] .one
(.br 37 []
(.ret (.i 250) [] [])
(.df (.bin .gtr 3) [(.q 9),(.i 1048576)] .one
(.br 38 []
(.ret (.i 250) [] [])
(.df (.bin .lss 3) [(.q 10),(.i 1)] .one
(.br 39 []
(.ret (.i 250) [] [])
(.df (.bin .gtr 3) [(.q 10),(.i 1048576)] .one
(.br 40 []
(.ret (.i 250) [] [])
(.df (.bin .lss 3) [(.q 11),(.i 1)] .one
(.br 41 []
(.ret (.i 250) [] [])
(.df (.bin .gtr 3) [(.q 11),(.i 1048576)] .one
(.br 42 []
(.ret (.i 250) [] [])
(.df (.bin .lss 3) [(.q 4),(.i 1)] .one
(.br 43 []
(.ret (.i 250) [] [])
(.df (.bin .gtr 3) [(.q 4),(.i 16)] .one
(.br 44 []
(.ret (.i 250) [] [])
(.df (.bin .lss 3) [(.q 5),(.i 0)] .one
(.br 45 []
(.ret (.i 250) [] [])
(.df (.bin .gtr 3) [(.q 5),(.i 16)] .one
(.br 46 []
(.ret (.i 250) [] [])
(.df (.bin .lss 3) [(.q 2),(.i 0)] .one
(.br 47 []
(.ret (.i 250) [] [])
(.df (.bin .gtr 3) [(.q 2),(.i 500)] .one
(.br 48 []
(.ret (.i 250) [] [])
(.df (.bin .lss 3) [(.q 15),(.i 0)] .one
(.br 49 []
(.ret (.i 250) [] [])
(.df (.bin .gtr 3) [(.q 15),(.i 1048576)] .one
(.br 50 []
(.ret (.i 250) [] [])
(.ret (.i 0) [] []))))))))))))))))))))))))))))))))))))))))))))))))))))))))))))))))))))
def args_bCheck:List SX.V:=[.a ((List.range 17).map fun j=>.x j [])]
set_option maxRecDepth 100000 in
theorem run_bCheck(K A:Value→Nat→List Value→Prop):(SX.run (cxF0 K A) ⟨fun f=>true,[],0,100⟩ 100000 0 (SX.door 26 Tryd.f26 args_bCheck (List.replicate 17 .one)) [.code (Tryd.f26.body.getD .skip),.top Tryd.f26]).strip=tree_bCheck:=by kernel_rfl
set_option maxRecDepth 100000 in
set_option maxHeartbeats 4000000 in
theorem bCheck_any(b:Bod.Bd)(w:World)(hs:b.name.size≤maxLen):Calls Tryd.prog 26 #[valBd b] w fun e w'=>e=.returned (.int .i64 b.chk)∧Below w.heap.size w w':=by
 refine SX.calls_of_run (C:=cxF0 (fun _ _ _=>False) (fun _ _ _=>False)) (G:=⟨fun f=>true,[],0,100⟩) (args:=args_bCheck) (sh:=(List.replicate 17 .one)) (ρ:=(cellsBd b)) 100000 tree_bCheck (okF0 _ _) Tryd.func26 rfl (run_bCheck _ _) (by kernel_rfl) (by kernel_rfl) (by kernel_rfl) ?_ ?_
 ·exact fun W _=>SX.Kf_none (fun _ _ _ h=>h) W
 unfold tree_bCheck
 refine SX.E (.bool (Bod.nameB b.name.data.toList)) (fun α=>⟨[⟨.string b.name,0,[]⟩],⟨by kernel_rfl,by kernel_rfl,trivial⟩,⟨rfl,_,rfl,hs,rfl⟩,SX.noAli rfl⟩) ?_
 refine SX.D (.bool (!(Bod.nameB b.name.data.toList))) ?_
 refine SX.B (!(Bod.nameB b.name.data.toList)) (fun h18=>?_) (fun h18=>?_)
 ·try simp only [NRM]at h18
  exact SX.F (.int .i64 250) (by congr 1;first|(rw [Bod.Bd.chk,if_pos (by simp only [Bod.Bd.okB,Bod.Bd.baseB,Bod.Bd.capsB,Bod.inB,Bool.and_eq_true,decide_eq_true_eq];have q:Bod.nameB b.name.data.toList=true:=(by simpa using h18);simp only [q,true_and];omega)])|(rw [Bod.Bd.chk,if_neg (fun hk=>by simp only [Bod.Bd.okB,Bod.Bd.baseB,Bod.Bd.capsB,Bod.inB,Bool.and_eq_true,decide_eq_true_eq]at hk;first|omega|(have q:=h18;simp [hk.1.1.1.1.1]at q))]))
 try simp only [NRM]at h18
 refine SX.D (.bool (decide (b.weight<1))) ?_
 refine SX.B (decide (b.weight<1)) (fun h19=>?_) (fun h19=>?_)
 ·try simp only [NRM]at h19
  exact SX.F (.int .i64 250) (by congr 1;first|(rw [Bod.Bd.chk,if_pos (by simp only [Bod.Bd.okB,Bod.Bd.baseB,Bod.Bd.capsB,Bod.inB,Bool.and_eq_true,decide_eq_true_eq];have q:Bod.nameB b.name.data.toList=true:=(by simpa using h18);simp only [q,true_and];omega)])|(rw [Bod.Bd.chk,if_neg (fun hk=>by simp only [Bod.Bd.okB,Bod.Bd.baseB,Bod.Bd.capsB,Bod.inB,Bool.and_eq_true,decide_eq_true_eq]at hk;first|omega|(have q:=h18;simp [hk.1.1.1.1.1]at q))]))
 try simp only [NRM]at h19
 refine SX.D (.bool (decide (b.weight>500))) ?_
 refine SX.B (decide (b.weight>500)) (fun h20=>?_) (fun h20=>?_)
 ·try simp only [NRM]at h20
  exact SX.F (.int .i64 250) (by congr 1;first|(rw [Bod.Bd.chk,if_pos (by simp only [Bod.Bd.okB,Bod.Bd.baseB,Bod.Bd.capsB,Bod.inB,Bool.and_eq_true,decide_eq_true_eq];have q:Bod.nameB b.name.data.toList=true:=(by simpa using h18);simp only [q,true_and];omega)])|(rw [Bod.Bd.chk,if_neg (fun hk=>by simp only [Bod.Bd.okB,Bod.Bd.baseB,Bod.Bd.capsB,Bod.inB,Bool.and_eq_true,decide_eq_true_eq]at hk;first|omega|(have q:=h18;simp [hk.1.1.1.1.1]at q))]))
 try simp only [NRM]at h20
 refine SX.D (.bool (decide (b.girth<1))) ?_
 refine SX.B (decide (b.girth<1)) (fun h21=>?_) (fun h21=>?_)
 ·try simp only [NRM]at h21
  exact SX.F (.int .i64 250) (by congr 1;first|(rw [Bod.Bd.chk,if_pos (by simp only [Bod.Bd.okB,Bod.Bd.baseB,Bod.Bd.capsB,Bod.inB,Bool.and_eq_true,decide_eq_true_eq];have q:Bod.nameB b.name.data.toList=true:=(by simpa using h18);simp only [q,true_and];omega)])|(rw [Bod.Bd.chk,if_neg (fun hk=>by simp only [Bod.Bd.okB,Bod.Bd.baseB,Bod.Bd.capsB,Bod.inB,Bool.and_eq_true,decide_eq_true_eq]at hk;first|omega|(have q:=h18;simp [hk.1.1.1.1.1]at q))]))
 try simp only [NRM]at h21
 refine SX.D (.bool (decide (b.girth>4))) ?_
 refine SX.B (decide (b.girth>4)) (fun h22=>?_) (fun h22=>?_)
 ·try simp only [NRM]at h22
  exact SX.F (.int .i64 250) (by congr 1;first|(rw [Bod.Bd.chk,if_pos (by simp only [Bod.Bd.okB,Bod.Bd.baseB,Bod.Bd.capsB,Bod.inB,Bool.and_eq_true,decide_eq_true_eq];have q:Bod.nameB b.name.data.toList=true:=(by simpa using h18);simp only [q,true_and];omega)])|(rw [Bod.Bd.chk,if_neg (fun hk=>by simp only [Bod.Bd.okB,Bod.Bd.baseB,Bod.Bd.capsB,Bod.inB,Bool.and_eq_true,decide_eq_true_eq]at hk;first|omega|(have q:=h18;simp [hk.1.1.1.1.1]at q))]))
 try simp only [NRM]at h22
 refine SX.D (.bool (decide (b.r0<1))) ?_
 refine SX.B (decide (b.r0<1)) (fun h23=>?_) (fun h23=>?_)
 ·try simp only [NRM]at h23
  exact SX.F (.int .i64 250) (by congr 1;first|(rw [Bod.Bd.chk,if_pos (by simp only [Bod.Bd.okB,Bod.Bd.baseB,Bod.Bd.capsB,Bod.inB,Bool.and_eq_true,decide_eq_true_eq];have q:Bod.nameB b.name.data.toList=true:=(by simpa using h18);simp only [q,true_and];omega)])|(rw [Bod.Bd.chk,if_neg (fun hk=>by simp only [Bod.Bd.okB,Bod.Bd.baseB,Bod.Bd.capsB,Bod.inB,Bool.and_eq_true,decide_eq_true_eq]at hk;first|omega|(have q:=h18;simp [hk.1.1.1.1.1]at q))]))
 try simp only [NRM]at h23
 refine SX.D (.bool (decide (b.r0>8))) ?_
 refine SX.B (decide (b.r0>8)) (fun h24=>?_) (fun h24=>?_)
 ·try simp only [NRM]at h24
  exact SX.F (.int .i64 250) (by congr 1;first|(rw [Bod.Bd.chk,if_pos (by simp only [Bod.Bd.okB,Bod.Bd.baseB,Bod.Bd.capsB,Bod.inB,Bool.and_eq_true,decide_eq_true_eq];have q:Bod.nameB b.name.data.toList=true:=(by simpa using h18);simp only [q,true_and];omega)])|(rw [Bod.Bd.chk,if_neg (fun hk=>by simp only [Bod.Bd.okB,Bod.Bd.baseB,Bod.Bd.capsB,Bod.inB,Bool.and_eq_true,decide_eq_true_eq]at hk;first|omega|(have q:=h18;simp [hk.1.1.1.1.1]at q))]))
 try simp only [NRM]at h24
 refine SX.D (.bool (decide (b.r1<1))) ?_
 refine SX.B (decide (b.r1<1)) (fun h25=>?_) (fun h25=>?_)
 ·try simp only [NRM]at h25
  exact SX.F (.int .i64 250) (by congr 1;first|(rw [Bod.Bd.chk,if_pos (by simp only [Bod.Bd.okB,Bod.Bd.baseB,Bod.Bd.capsB,Bod.inB,Bool.and_eq_true,decide_eq_true_eq];have q:Bod.nameB b.name.data.toList=true:=(by simpa using h18);simp only [q,true_and];omega)])|(rw [Bod.Bd.chk,if_neg (fun hk=>by simp only [Bod.Bd.okB,Bod.Bd.baseB,Bod.Bd.capsB,Bod.inB,Bool.and_eq_true,decide_eq_true_eq]at hk;first|omega|(have q:=h18;simp [hk.1.1.1.1.1]at q))]))
 try simp only [NRM]at h25
 refine SX.D (.bool (decide (b.r1>8))) ?_
 refine SX.B (decide (b.r1>8)) (fun h26=>?_) (fun h26=>?_)
 ·try simp only [NRM]at h26
  exact SX.F (.int .i64 250) (by congr 1;first|(rw [Bod.Bd.chk,if_pos (by simp only [Bod.Bd.okB,Bod.Bd.baseB,Bod.Bd.capsB,Bod.inB,Bool.and_eq_true,decide_eq_true_eq];have q:Bod.nameB b.name.data.toList=true:=(by simpa using h18);simp only [q,true_and];omega)])|(rw [Bod.Bd.chk,if_neg (fun hk=>by simp only [Bod.Bd.okB,Bod.Bd.baseB,Bod.Bd.capsB,Bod.inB,Bool.and_eq_true,decide_eq_true_eq]at hk;first|omega|(have q:=h18;simp [hk.1.1.1.1.1]at q))]))
 try simp only [NRM]at h26
 refine SX.D (.bool (decide (b.r2<1))) ?_
 refine SX.B (decide (b.r2<1)) (fun h27=>?_) (fun h27=>?_)
 ·try simp only [NRM]at h27
  exact SX.F (.int .i64 250) (by congr 1;first|(rw [Bod.Bd.chk,if_pos (by simp only [Bod.Bd.okB,Bod.Bd.baseB,Bod.Bd.capsB,Bod.inB,Bool.and_eq_true,decide_eq_true_eq];have q:Bod.nameB b.name.data.toList=true:=(by simpa using h18);simp only [q,true_and];omega)])|(rw [Bod.Bd.chk,if_neg (fun hk=>by simp only [Bod.Bd.okB,Bod.Bd.baseB,Bod.Bd.capsB,Bod.inB,Bool.and_eq_true,decide_eq_true_eq]at hk;first|omega|(have q:=h18;simp [hk.1.1.1.1.1]at q))]))
 try simp only [NRM]at h27
 refine SX.D (.bool (decide (b.r2>8))) ?_
 refine SX.B (decide (b.r2>8)) (fun h28=>?_) (fun h28=>?_)
 ·try simp only [NRM]at h28
  exact SX.F (.int .i64 250) (by congr 1;first|(rw [Bod.Bd.chk,if_pos (by simp only [Bod.Bd.okB,Bod.Bd.baseB,Bod.Bd.capsB,Bod.inB,Bool.and_eq_true,decide_eq_true_eq];have q:Bod.nameB b.name.data.toList=true:=(by simpa using h18);simp only [q,true_and];omega)])|(rw [Bod.Bd.chk,if_neg (fun hk=>by simp only [Bod.Bd.okB,Bod.Bd.baseB,Bod.Bd.capsB,Bod.inB,Bool.and_eq_true,decide_eq_true_eq]at hk;first|omega|(have q:=h18;simp [hk.1.1.1.1.1]at q))]))
 try simp only [NRM]at h28
 refine SX.D (.bool (decide (b.recover<0))) ?_
 refine SX.B (decide (b.recover<0)) (fun h29=>?_) (fun h29=>?_)
 ·try simp only [NRM]at h29
  exact SX.F (.int .i64 250) (by congr 1;first|(rw [Bod.Bd.chk,if_pos (by simp only [Bod.Bd.okB,Bod.Bd.baseB,Bod.Bd.capsB,Bod.inB,Bool.and_eq_true,decide_eq_true_eq];have q:Bod.nameB b.name.data.toList=true:=(by simpa using h18);simp only [q,true_and];omega)])|(rw [Bod.Bd.chk,if_neg (fun hk=>by simp only [Bod.Bd.okB,Bod.Bd.baseB,Bod.Bd.capsB,Bod.inB,Bool.and_eq_true,decide_eq_true_eq]at hk;first|omega|(have q:=h18;simp [hk.1.1.1.1.1]at q))]))
 try simp only [NRM]at h29
 refine SX.D (.bool (decide (b.recover>1048576))) ?_
 refine SX.B (decide (b.recover>1048576)) (fun h30=>?_) (fun h30=>?_)
 ·try simp only [NRM]at h30
  exact SX.F (.int .i64 250) (by congr 1;first|(rw [Bod.Bd.chk,if_pos (by simp only [Bod.Bd.okB,Bod.Bd.baseB,Bod.Bd.capsB,Bod.inB,Bool.and_eq_true,decide_eq_true_eq];have q:Bod.nameB b.name.data.toList=true:=(by simpa using h18);simp only [q,true_and];omega)])|(rw [Bod.Bd.chk,if_neg (fun hk=>by simp only [Bod.Bd.okB,Bod.Bd.baseB,Bod.Bd.capsB,Bod.inB,Bool.and_eq_true,decide_eq_true_eq]at hk;first|omega|(have q:=h18;simp [hk.1.1.1.1.1]at q))]))
 try simp only [NRM]at h30
 refine SX.D (.bool (decide (b.t0<1))) ?_
 refine SX.B (decide (b.t0<1)) (fun h31=>?_) (fun h31=>?_)
 ·try simp only [NRM]at h31
  exact SX.F (.int .i64 250) (by congr 1;first|(rw [Bod.Bd.chk,if_pos (by simp only [Bod.Bd.okB,Bod.Bd.baseB,Bod.Bd.capsB,Bod.inB,Bool.and_eq_true,decide_eq_true_eq];have q:Bod.nameB b.name.data.toList=true:=(by simpa using h18);simp only [q,true_and];omega)])|(rw [Bod.Bd.chk,if_neg (fun hk=>by simp only [Bod.Bd.okB,Bod.Bd.baseB,Bod.Bd.capsB,Bod.inB,Bool.and_eq_true,decide_eq_true_eq]at hk;first|omega|(have q:=h18;simp [hk.1.1.1.1.1]at q))]))
 try simp only [NRM]at h31
 refine SX.D (.bool (decide (b.t0>3))) ?_
 refine SX.B (decide (b.t0>3)) (fun h32=>?_) (fun h32=>?_)
 ·try simp only [NRM]at h32
  exact SX.F (.int .i64 250) (by congr 1;first|(rw [Bod.Bd.chk,if_pos (by simp only [Bod.Bd.okB,Bod.Bd.baseB,Bod.Bd.capsB,Bod.inB,Bool.and_eq_true,decide_eq_true_eq];have q:Bod.nameB b.name.data.toList=true:=(by simpa using h18);simp only [q,true_and];omega)])|(rw [Bod.Bd.chk,if_neg (fun hk=>by simp only [Bod.Bd.okB,Bod.Bd.baseB,Bod.Bd.capsB,Bod.inB,Bool.and_eq_true,decide_eq_true_eq]at hk;first|omega|(have q:=h18;simp [hk.1.1.1.1.1]at q))]))
 try simp only [NRM]at h32
 refine SX.D (.bool (decide (b.t1<1))) ?_
 refine SX.B (decide (b.t1<1)) (fun h33=>?_) (fun h33=>?_)
 ·try simp only [NRM]at h33
  exact SX.F (.int .i64 250) (by congr 1;first|(rw [Bod.Bd.chk,if_pos (by simp only [Bod.Bd.okB,Bod.Bd.baseB,Bod.Bd.capsB,Bod.inB,Bool.and_eq_true,decide_eq_true_eq];have q:Bod.nameB b.name.data.toList=true:=(by simpa using h18);simp only [q,true_and];omega)])|(rw [Bod.Bd.chk,if_neg (fun hk=>by simp only [Bod.Bd.okB,Bod.Bd.baseB,Bod.Bd.capsB,Bod.inB,Bool.and_eq_true,decide_eq_true_eq]at hk;first|omega|(have q:=h18;simp [hk.1.1.1.1.1]at q))]))
 try simp only [NRM]at h33
 refine SX.D (.bool (decide (b.t1>3))) ?_
 refine SX.B (decide (b.t1>3)) (fun h34=>?_) (fun h34=>?_)
 ·try simp only [NRM]at h34
  exact SX.F (.int .i64 250) (by congr 1;first|(rw [Bod.Bd.chk,if_pos (by simp only [Bod.Bd.okB,Bod.Bd.baseB,Bod.Bd.capsB,Bod.inB,Bool.and_eq_true,decide_eq_true_eq];have q:Bod.nameB b.name.data.toList=true:=(by simpa using h18);simp only [q,true_and];omega)])|(rw [Bod.Bd.chk,if_neg (fun hk=>by simp only [Bod.Bd.okB,Bod.Bd.baseB,Bod.Bd.capsB,Bod.inB,Bool.and_eq_true,decide_eq_true_eq]at hk;first|omega|(have q:=h18;simp [hk.1.1.1.1.1]at q))]))
 try simp only [NRM]at h34
 refine SX.D (.bool (decide (b.t2<1))) ?_
 refine SX.B (decide (b.t2<1)) (fun h35=>?_) (fun h35=>?_)
 ·try simp only [NRM]at h35
  exact SX.F (.int .i64 250) (by congr 1;first|(rw [Bod.Bd.chk,if_pos (by simp only [Bod.Bd.okB,Bod.Bd.baseB,Bod.Bd.capsB,Bod.inB,Bool.and_eq_true,decide_eq_true_eq];have q:Bod.nameB b.name.data.toList=true:=(by simpa using h18);simp only [q,true_and];omega)])|(rw [Bod.Bd.chk,if_neg (fun hk=>by simp only [Bod.Bd.okB,Bod.Bd.baseB,Bod.Bd.capsB,Bod.inB,Bool.and_eq_true,decide_eq_true_eq]at hk;first|omega|(have q:=h18;simp [hk.1.1.1.1.1]at q))]))
 try simp only [NRM]at h35
 refine SX.D (.bool (decide (b.t2>3))) ?_
 refine SX.B (decide (b.t2>3)) (fun h36=>?_) (fun h36=>?_)
 ·try simp only [NRM]at h36
  exact SX.F (.int .i64 250) (by congr 1;first|(rw [Bod.Bd.chk,if_pos (by simp only [Bod.Bd.okB,Bod.Bd.baseB,Bod.Bd.capsB,Bod.inB,Bool.and_eq_true,decide_eq_true_eq];have q:Bod.nameB b.name.data.toList=true:=(by simpa using h18);simp only [q,true_and];omega)])|(rw [Bod.Bd.chk,if_neg (fun hk=>by simp only [Bod.Bd.okB,Bod.Bd.baseB,Bod.Bd.capsB,Bod.inB,Bool.and_eq_true,decide_eq_true_eq]at hk;first|omega|(have q:=h18;simp [hk.1.1.1.1.1]at q))]))
 try simp only [NRM]at h36
 refine SX.D (.bool (decide (b.s0<1))) ?_
 refine SX.B (decide (b.s0<1)) (fun h37=>?_) (fun h37=>?_)
 ·try simp only [NRM]at h37
  exact SX.F (.int .i64 250) (by congr 1;first|(rw [Bod.Bd.chk,if_pos (by simp only [Bod.Bd.okB,Bod.Bd.baseB,Bod.Bd.capsB,Bod.inB,Bool.and_eq_true,decide_eq_true_eq];have q:Bod.nameB b.name.data.toList=true:=(by simpa using h18);simp only [q,true_and];omega)])|(rw [Bod.Bd.chk,if_neg (fun hk=>by simp only [Bod.Bd.okB,Bod.Bd.baseB,Bod.Bd.capsB,Bod.inB,Bool.and_eq_true,decide_eq_true_eq]at hk;first|omega|(have q:=h18;simp [hk.1.1.1.1.1]at q))]))
 try simp only [NRM]at h37
 refine SX.D (.bool (decide (b.s0>1048576))) ?_
 refine SX.B (decide (b.s0>1048576)) (fun h38=>?_) (fun h38=>?_)
 ·try simp only [NRM]at h38
  exact SX.F (.int .i64 250) (by congr 1;first|(rw [Bod.Bd.chk,if_pos (by simp only [Bod.Bd.okB,Bod.Bd.baseB,Bod.Bd.capsB,Bod.inB,Bool.and_eq_true,decide_eq_true_eq];have q:Bod.nameB b.name.data.toList=true:=(by simpa using h18);simp only [q,true_and];omega)])|(rw [Bod.Bd.chk,if_neg (fun hk=>by simp only [Bod.Bd.okB,Bod.Bd.baseB,Bod.Bd.capsB,Bod.inB,Bool.and_eq_true,decide_eq_true_eq]at hk;first|omega|(have q:=h18;simp [hk.1.1.1.1.1]at q))]))
 try simp only [NRM]at h38
 refine SX.D (.bool (decide (b.s1<1))) ?_
 refine SX.B (decide (b.s1<1)) (fun h39=>?_) (fun h39=>?_)
 ·try simp only [NRM]at h39
  exact SX.F (.int .i64 250) (by congr 1;first|(rw [Bod.Bd.chk,if_pos (by simp only [Bod.Bd.okB,Bod.Bd.baseB,Bod.Bd.capsB,Bod.inB,Bool.and_eq_true,decide_eq_true_eq];have q:Bod.nameB b.name.data.toList=true:=(by simpa using h18);simp only [q,true_and];omega)])|(rw [Bod.Bd.chk,if_neg (fun hk=>by simp only [Bod.Bd.okB,Bod.Bd.baseB,Bod.Bd.capsB,Bod.inB,Bool.and_eq_true,decide_eq_true_eq]at hk;first|omega|(have q:=h18;simp [hk.1.1.1.1.1]at q))]))
 try simp only [NRM]at h39
 refine SX.D (.bool (decide (b.s1>1048576))) ?_
 refine SX.B (decide (b.s1>1048576)) (fun h40=>?_) (fun h40=>?_)
 ·try simp only [NRM]at h40
  exact SX.F (.int .i64 250) (by congr 1;first|(rw [Bod.Bd.chk,if_pos (by simp only [Bod.Bd.okB,Bod.Bd.baseB,Bod.Bd.capsB,Bod.inB,Bool.and_eq_true,decide_eq_true_eq];have q:Bod.nameB b.name.data.toList=true:=(by simpa using h18);simp only [q,true_and];omega)])|(rw [Bod.Bd.chk,if_neg (fun hk=>by simp only [Bod.Bd.okB,Bod.Bd.baseB,Bod.Bd.capsB,Bod.inB,Bool.and_eq_true,decide_eq_true_eq]at hk;first|omega|(have q:=h18;simp [hk.1.1.1.1.1]at q))]))
 try simp only [NRM]at h40
 refine SX.D (.bool (decide (b.s2<1))) ?_
 refine SX.B (decide (b.s2<1)) (fun h41=>?_) (fun h41=>?_)
 ·try simp only [NRM]at h41
  exact SX.F (.int .i64 250) (by congr 1;first|(rw [Bod.Bd.chk,if_pos (by simp only [Bod.Bd.okB,Bod.Bd.baseB,Bod.Bd.capsB,Bod.inB,Bool.and_eq_true,decide_eq_true_eq];have q:Bod.nameB b.name.data.toList=true:=(by simpa using h18);simp only [q,true_and];omega)])|(rw [Bod.Bd.chk,if_neg (fun hk=>by simp only [Bod.Bd.okB,Bod.Bd.baseB,Bod.Bd.capsB,Bod.inB,Bool.and_eq_true,decide_eq_true_eq]at hk;first|omega|(have q:=h18;simp [hk.1.1.1.1.1]at q))]))
 try simp only [NRM]at h41
 refine SX.D (.bool (decide (b.s2>1048576))) ?_
 refine SX.B (decide (b.s2>1048576)) (fun h42=>?_) (fun h42=>?_)
 ·try simp only [NRM]at h42
  exact SX.F (.int .i64 250) (by congr 1;first|(rw [Bod.Bd.chk,if_pos (by simp only [Bod.Bd.okB,Bod.Bd.baseB,Bod.Bd.capsB,Bod.inB,Bool.and_eq_true,decide_eq_true_eq];have q:Bod.nameB b.name.data.toList=true:=(by simpa using h18);simp only [q,true_and];omega)])|(rw [Bod.Bd.chk,if_neg (fun hk=>by simp only [Bod.Bd.okB,Bod.Bd.baseB,Bod.Bd.capsB,Bod.inB,Bool.and_eq_true,decide_eq_true_eq]at hk;first|omega|(have q:=h18;simp [hk.1.1.1.1.1]at q))]))
 try simp only [NRM]at h42
 refine SX.D (.bool (decide (b.step<1))) ?_
 refine SX.B (decide (b.step<1)) (fun h43=>?_) (fun h43=>?_)
 ·try simp only [NRM]at h43
  exact SX.F (.int .i64 250) (by congr 1;first|(rw [Bod.Bd.chk,if_pos (by simp only [Bod.Bd.okB,Bod.Bd.baseB,Bod.Bd.capsB,Bod.inB,Bool.and_eq_true,decide_eq_true_eq];have q:Bod.nameB b.name.data.toList=true:=(by simpa using h18);simp only [q,true_and];omega)])|(rw [Bod.Bd.chk,if_neg (fun hk=>by simp only [Bod.Bd.okB,Bod.Bd.baseB,Bod.Bd.capsB,Bod.inB,Bool.and_eq_true,decide_eq_true_eq]at hk;first|omega|(have q:=h18;simp [hk.1.1.1.1.1]at q))]))
 try simp only [NRM]at h43
 refine SX.D (.bool (decide (b.step>16))) ?_
 refine SX.B (decide (b.step>16)) (fun h44=>?_) (fun h44=>?_)
 ·try simp only [NRM]at h44
  exact SX.F (.int .i64 250) (by congr 1;first|(rw [Bod.Bd.chk,if_pos (by simp only [Bod.Bd.okB,Bod.Bd.baseB,Bod.Bd.capsB,Bod.inB,Bool.and_eq_true,decide_eq_true_eq];have q:Bod.nameB b.name.data.toList=true:=(by simpa using h18);simp only [q,true_and];omega)])|(rw [Bod.Bd.chk,if_neg (fun hk=>by simp only [Bod.Bd.okB,Bod.Bd.baseB,Bod.Bd.capsB,Bod.inB,Bool.and_eq_true,decide_eq_true_eq]at hk;first|omega|(have q:=h18;simp [hk.1.1.1.1.1]at q))]))
 try simp only [NRM]at h44
 refine SX.D (.bool (decide (b.jump<0))) ?_
 refine SX.B (decide (b.jump<0)) (fun h45=>?_) (fun h45=>?_)
 ·try simp only [NRM]at h45
  exact SX.F (.int .i64 250) (by congr 1;first|(rw [Bod.Bd.chk,if_pos (by simp only [Bod.Bd.okB,Bod.Bd.baseB,Bod.Bd.capsB,Bod.inB,Bool.and_eq_true,decide_eq_true_eq];have q:Bod.nameB b.name.data.toList=true:=(by simpa using h18);simp only [q,true_and];omega)])|(rw [Bod.Bd.chk,if_neg (fun hk=>by simp only [Bod.Bd.okB,Bod.Bd.baseB,Bod.Bd.capsB,Bod.inB,Bool.and_eq_true,decide_eq_true_eq]at hk;first|omega|(have q:=h18;simp [hk.1.1.1.1.1]at q))]))
 try simp only [NRM]at h45
 refine SX.D (.bool (decide (b.jump>16))) ?_
 refine SX.B (decide (b.jump>16)) (fun h46=>?_) (fun h46=>?_)
 ·try simp only [NRM]at h46
  exact SX.F (.int .i64 250) (by congr 1;first|(rw [Bod.Bd.chk,if_pos (by simp only [Bod.Bd.okB,Bod.Bd.baseB,Bod.Bd.capsB,Bod.inB,Bool.and_eq_true,decide_eq_true_eq];have q:Bod.nameB b.name.data.toList=true:=(by simpa using h18);simp only [q,true_and];omega)])|(rw [Bod.Bd.chk,if_neg (fun hk=>by simp only [Bod.Bd.okB,Bod.Bd.baseB,Bod.Bd.capsB,Bod.inB,Bool.and_eq_true,decide_eq_true_eq]at hk;first|omega|(have q:=h18;simp [hk.1.1.1.1.1]at q))]))
 try simp only [NRM]at h46
 refine SX.D (.bool (decide (b.lift<0))) ?_
 refine SX.B (decide (b.lift<0)) (fun h47=>?_) (fun h47=>?_)
 ·try simp only [NRM]at h47
  exact SX.F (.int .i64 250) (by congr 1;first|(rw [Bod.Bd.chk,if_pos (by simp only [Bod.Bd.okB,Bod.Bd.baseB,Bod.Bd.capsB,Bod.inB,Bool.and_eq_true,decide_eq_true_eq];have q:Bod.nameB b.name.data.toList=true:=(by simpa using h18);simp only [q,true_and];omega)])|(rw [Bod.Bd.chk,if_neg (fun hk=>by simp only [Bod.Bd.okB,Bod.Bd.baseB,Bod.Bd.capsB,Bod.inB,Bool.and_eq_true,decide_eq_true_eq]at hk;first|omega|(have q:=h18;simp [hk.1.1.1.1.1]at q))]))
 try simp only [NRM]at h47
 refine SX.D (.bool (decide (b.lift>500))) ?_
 refine SX.B (decide (b.lift>500)) (fun h48=>?_) (fun h48=>?_)
 ·try simp only [NRM]at h48
  exact SX.F (.int .i64 250) (by congr 1;first|(rw [Bod.Bd.chk,if_pos (by simp only [Bod.Bd.okB,Bod.Bd.baseB,Bod.Bd.capsB,Bod.inB,Bool.and_eq_true,decide_eq_true_eq];have q:Bod.nameB b.name.data.toList=true:=(by simpa using h18);simp only [q,true_and];omega)])|(rw [Bod.Bd.chk,if_neg (fun hk=>by simp only [Bod.Bd.okB,Bod.Bd.baseB,Bod.Bd.capsB,Bod.inB,Bool.and_eq_true,decide_eq_true_eq]at hk;first|omega|(have q:=h18;simp [hk.1.1.1.1.1]at q))]))
 try simp only [NRM]at h48
 refine SX.D (.bool (decide (b.effort<0))) ?_
 refine SX.B (decide (b.effort<0)) (fun h49=>?_) (fun h49=>?_)
 ·try simp only [NRM]at h49
  exact SX.F (.int .i64 250) (by congr 1;first|(rw [Bod.Bd.chk,if_pos (by simp only [Bod.Bd.okB,Bod.Bd.baseB,Bod.Bd.capsB,Bod.inB,Bool.and_eq_true,decide_eq_true_eq];have q:Bod.nameB b.name.data.toList=true:=(by simpa using h18);simp only [q,true_and];omega)])|(rw [Bod.Bd.chk,if_neg (fun hk=>by simp only [Bod.Bd.okB,Bod.Bd.baseB,Bod.Bd.capsB,Bod.inB,Bool.and_eq_true,decide_eq_true_eq]at hk;first|omega|(have q:=h18;simp [hk.1.1.1.1.1]at q))]))
 try simp only [NRM]at h49
 refine SX.D (.bool (decide (b.effort>1048576))) ?_
 refine SX.B (decide (b.effort>1048576)) (fun h50=>?_) (fun h50=>?_)
 ·try simp only [NRM]at h50
  exact SX.F (.int .i64 250) (by congr 1;first|(rw [Bod.Bd.chk,if_pos (by simp only [Bod.Bd.okB,Bod.Bd.baseB,Bod.Bd.capsB,Bod.inB,Bool.and_eq_true,decide_eq_true_eq];have q:Bod.nameB b.name.data.toList=true:=(by simpa using h18);simp only [q,true_and];omega)])|(rw [Bod.Bd.chk,if_neg (fun hk=>by simp only [Bod.Bd.okB,Bod.Bd.baseB,Bod.Bd.capsB,Bod.inB,Bool.and_eq_true,decide_eq_true_eq]at hk;first|omega|(have q:=h18;simp [hk.1.1.1.1.1]at q))]))
 try simp only [NRM]at h50
 exact SX.F (.int .i64 0) (by congr 1;first|(rw [Bod.Bd.chk,if_pos (by simp only [Bod.Bd.okB,Bod.Bd.baseB,Bod.Bd.capsB,Bod.inB,Bool.and_eq_true,decide_eq_true_eq];have q:Bod.nameB b.name.data.toList=true:=(by simpa using h18);simp only [q,true_and];omega)])|(rw [Bod.Bd.chk,if_neg (fun hk=>by simp only [Bod.Bd.okB,Bod.Bd.baseB,Bod.Bd.capsB,Bod.inB,Bool.and_eq_true,decide_eq_true_eq]at hk;first|omega|(have q:=h18;simp [hk.1.1.1.1.1]at q))]))
end Go.Proofs.YtidekfgkpindbaaDoor
namespace Go.Proofs.YtidekfgkpindbaaDoor
set_option maxRecDepth 20000
open Go Go.RowKit Go.ChangeShapes Go.WideShapes Go.ChangeAt
section
variable {H:Type}{enc:TypeId×Value→H}{w:World}{base:Nat}{sp:Nat→Bool}{held:Bool}{r:Reach}{b0:Nat}{v:Value}{d:DataW H}{ps:List MemPlace}
theorem str_cell{n:Nat}{cs:List Value}{y:DataW H×List MemPlace}(hf:DataW.trod enc Tryd.prog w base sp held n 9 cs=some y):∃ s:ByteArray,s.size≤maxLen∧cs=[.string s]:=by
 obtain⟨s,e,_,hm⟩:=DataW.trod_string Tryd.underlying9 hf
 exact⟨s,hm,e⟩
theorem int3_cells{n:Nat}{cs:List Value}{y:DataW H×List MemPlace}(hf:DataW.trod enc Tryd.prog w base sp held n 40 cs=some y):∃ a b c:Int,cs=[.int .i64 a,.int .i64 b,.int .i64 c]:=by
 obtain⟨xs,m,_,_,hlen,hl,hx⟩:=DataW.trod_array Tryd.underlying40 hf
 have hC:Tryd.prog.cellsOf 40=3:=by kernel_rfl
 have hE:Tryd.prog.cellsOf 3=1:=by kernel_rfl
 rw [hC]at hlen
 rw [hE]at hx
 have g:∀ j,j<3→∃ k:Int,(cs.drop j).take 1=[.int .i64 k]:=fun j hj=>by
  have g:=(hx j hj).trans (List.getElem?_eq_getElem (by omega))
  rw [Nat.mul_one]at g
  obtain⟨k,_,e⟩:=int_cell g
  exact⟨k,e⟩
 obtain⟨a,e0⟩:=g 0 (by omega)
 obtain⟨b,e1⟩:=g 1 (by omega)
 obtain⟨c,e2⟩:=g 2 (by omega)
 refine⟨a,b,c,?_⟩
 show cs=_
 rw [show cs=cs.drop 0 from rfl,cut_at cs (show 0+1=1 from rfl),e0,cut_at cs (show 1+1=2 from rfl),e1,cut_at cs (show 2+1=3 from rfl),e2,List.drop_eq_nil_of_le (by omega:cs.length≤3)]
 rfl
theorem body_cells{n:Nat}{cs:List Value}{y:DataW H×List MemPlace}(hf:DataW.trod enc Tryd.prog w base sp held n 42 cs=some y):∃ b:Bod.Bd,b.name.size≤maxLen∧cs=cellsBd b:=by
 obtain⟨xs,n,_,_,hlen,hl,hx⟩:=DataW.trod_struct Tryd.underlying42 hf
 have hC:Tryd.prog.cellsOf 42=17:=by kernel_rfl
 rw [hC]at hlen
 have hl':xs.length=11:=hl
 have g0:DataW.trod enc Tryd.prog w base sp held n 9 ((cs.drop 0).take 1)=some (xs[0]'(by omega)):=(hx 0 _ rfl).trans (List.getElem?_eq_getElem _)
 obtain⟨s0,h0,e0⟩:=str_cell g0
 have g1:DataW.trod enc Tryd.prog w base sp held n 3 ((cs.drop 1).take 1)=some (xs[1]'(by omega)):=(hx 1 _ rfl).trans (List.getElem?_eq_getElem _)
 obtain⟨v1,h1,e1⟩:=int_cell g1
 have g2:DataW.trod enc Tryd.prog w base sp held n 3 ((cs.drop 2).take 1)=some (xs[2]'(by omega)):=(hx 2 _ rfl).trans (List.getElem?_eq_getElem _)
 obtain⟨v2,h2,e2⟩:=int_cell g2
 have g3:DataW.trod enc Tryd.prog w base sp held n 3 ((cs.drop 3).take 1)=some (xs[3]'(by omega)):=(hx 3 _ rfl).trans (List.getElem?_eq_getElem _)
 obtain⟨v3,h3,e3⟩:=int_cell g3
 have g4:DataW.trod enc Tryd.prog w base sp held n 3 ((cs.drop 4).take 1)=some (xs[4]'(by omega)):=(hx 4 _ rfl).trans (List.getElem?_eq_getElem _)
 obtain⟨v4,h4,e4⟩:=int_cell g4
 have g5:DataW.trod enc Tryd.prog w base sp held n 3 ((cs.drop 5).take 1)=some (xs[5]'(by omega)):=(hx 5 _ rfl).trans (List.getElem?_eq_getElem _)
 obtain⟨v5,h5,e5⟩:=int_cell g5
 have g6:DataW.trod enc Tryd.prog w base sp held n 40 ((cs.drop 6).take 3)=some (xs[6]'(by omega)):=(hx 6 _ rfl).trans (List.getElem?_eq_getElem _)
 obtain⟨a6,b6,c6,e6⟩:=int3_cells g6
 have g7:DataW.trod enc Tryd.prog w base sp held n 40 ((cs.drop 9).take 3)=some (xs[7]'(by omega)):=(hx 7 _ rfl).trans (List.getElem?_eq_getElem _)
 obtain⟨a7,b7,c7,e7⟩:=int3_cells g7
 have g8:DataW.trod enc Tryd.prog w base sp held n 40 ((cs.drop 12).take 3)=some (xs[8]'(by omega)):=(hx 8 _ rfl).trans (List.getElem?_eq_getElem _)
 obtain⟨a8,b8,c8,e8⟩:=int3_cells g8
 have g9:DataW.trod enc Tryd.prog w base sp held n 3 ((cs.drop 15).take 1)=some (xs[9]'(by omega)):=(hx 9 _ rfl).trans (List.getElem?_eq_getElem _)
 obtain⟨v9,h9,e9⟩:=int_cell g9
 have g10:DataW.trod enc Tryd.prog w base sp held n 3 ((cs.drop 16).take 1)=some (xs[10]'(by omega)):=(hx 10 _ rfl).trans (List.getElem?_eq_getElem _)
 obtain⟨v10,h10,e10⟩:=int_cell g10
 refine⟨⟨s0,v1,v2,v3,v4,v5,a6,b6,c6,a7,b7,c7,a8,b8,c8,v9,v10⟩,h0,?_⟩
 show cs=_
 rw [show cs=cs.drop 0 from rfl,cut_at cs (show 0+1=1 from rfl),e0,cut_at cs (show 1+1=2 from rfl),e1,cut_at cs (show 2+1=3 from rfl),e2,cut_at cs (show 3+1=4 from rfl),e3,cut_at cs (show 4+1=5 from rfl),e4,cut_at cs (show 5+1=6 from rfl),e5,cut_at cs (show 6+3=9 from rfl),e6,cut_at cs (show 9+3=12 from rfl),e7,cut_at cs (show 12+3=15 from rfl),e8,cut_at cs (show 15+1=16 from rfl),e9,cut_at cs (show 16+1=17 from rfl),e10,List.drop_eq_nil_of_le (by omega:cs.length≤17)]
 rfl
theorem open_body(hval:Value.okWide Tryd.prog w r b0 42 v)(hd:DataW.Trod enc Tryd.prog w base sp held 42 v d ps):∃ b:Bod.Bd,v=valBd b∧b.name.size≤maxLen:=by
 obtain⟨fuel,hf⟩:=hd
 obtain⟨b,h,hc⟩:=body_cells hf
 exact⟨b,v_agg Tryd.underlying42 hval hc,h⟩
end
theorem nil_rd{w:World}:KW w (.slice none 0 0) 32 (dgs []):=fun W hW=>SX.rd_empty
def tree_lsane:SX.Tree :=(.df (.call 8 [.no,.no,(.own 9 [(.i 1),(.i 3),(.i 0),(.i 5),(.i 9),(.i 7),(.i 3),(.i 0),(.i 2),(.i 4),(.i 3),(.i 0),(.i 0),(.i 9),(.i 7),(.i 4),(.i 0),(.i 0)]),(.own 1 [(.i 7),(.i 9)])]) [(.i 5),(.i 3),(.sl 0 0 2 2),(.sl 1 0 2 2)] (.tp [(.ag 36),.one])
(.df (.callq 10 [.no,(.own 9 [(.i 1),(.i 3),(.i 0),(.i 5),(.i 9),(.i 7),(.i 3),(.i 0),(.i 2),(.i 4),(.i 3),(.i 0),(.i 0),(.i 9),(.i 7),(.i 4),(.i 0),(.i 0)]),(.own 1 [(.i 7),(.i 9)]),.no]) [(.i 3),(.sl 0 0 2 2),(.sl 1 0 2 2),(.i 1)] (.tp [(.ag 12),.one])
(.df (.call 8 [.no,.no,(.own 9 []),(.own 1 [])]) [(.i 0),(.i 3),(.k (.slice none 0 0)),(.k (.slice none 0 0))] (.tp [(.ag 36),.one])
(.df (.call 8 [.no,.no,(.own 9 []),(.own 1 [])]) [(.i 1),(.i 3),(.k (.slice none 0 0)),(.k (.slice none 0 0))] (.tp [(.ag 36),.one])
(.df (.call 8 [.no,.no,(.own 9 [(.i 1),(.i 3),(.i 0),(.i 5),(.i 9),(.i 7),(.i 3),(.i 0),(.i 2),(.i 4),(.i 3),(.i 0),(.i 0),(.i 9),(.i 7),(.i 4),(.i 0),(.i 0)]),(.own 1 [(.i 7),(.i 9)])]) [(.i 5),(.i 2),(.sl 0 0 2 2),(.sl 1 0 2 2)] (.tp [(.ag 36),.one])
(.df (.callq 10 [.no,(.own 9 [(.i 1),(.i 3),(.i 0),(.i 5),(.i 9),(.i 7),(.i 3),(.i 0),(.i 2),(.i 4),(.i 3),(.i 0),(.i 0),(.i 9),(.i 7),(.i 4),(.i 0),(.i 0)]),(.own 1 [(.i 7),(.i 9)]),.no]) [(.i 3),(.sl 0 0 2 2),(.sl 1 0 2 2),(.i 2)] (.tp [(.ag 12),.one])
(.df (.bin .neq 44) [(.x 0 [1]),(.i 0)] .one
(.br 6 []
(.ret (.k (.bool false)) (List.replicate 8 none) [])
(.df (.bin .neq 44) [(.x 1 [1]),(.i 0)] .one
(.br 7 []
(.ret (.k (.bool false)) (List.replicate 8 none) [])
(.df (.bin .neq 44) [(.x 2 [1]),(.i 110)] .one
(.br 8 []
(.ret (.k (.bool false)) (List.replicate 8 none) [])
(.df (.bin .neq 44) [(.x 3 [1]),(.i 350)] .one
(.br 9 []
(.ret (.k (.bool false)) (List.replicate 8 none) [])
(.df (.bin .neq 44) [(.x 4 [1]),(.i 350)] .one
(.br 10 []
(.ret (.k (.bool false)) (List.replicate 8 none) [])
(.df (.bin .neq 44) [(.x 5 [1]),(.i 1)] .one
(.br 11 []
(.ret (.k (.bool false)) (List.replicate 8 none) [])
(.df (.bin .add 3) [(.x 1 [0,6]),(.i 1)] .one
(.df (.call 15 [.no,.no]) [(.a [(.x 0 [0,0]),(.x 0 [0,1]),(.x 0 [0,2]),(.x 0 [0,3]),(.x 0 [0,4]),(.x 0 [0,5]),(.x 0 [0,6]),(.x 0 [0,7]),(.x 0 [0,8]),(.x 0 [0,9]),(.x 0 [0,10]),(.x 0 [0,11]),(.x 0 [0,12]),(.x 0 [0,13]),(.x 0 [0,14]),(.x 0 [0,15]),(.x 0 [0,16]),(.x 0 [0,17]),(.x 0 [0,18]),(.x 0 [0,19]),(.x 0 [0,20]),(.x 0 [0,21]),(.x 0 [0,22]),(.x 0 [0,23]),(.x 0 [0,24]),(.x 0 [0,25]),(.x 0 [0,26]),(.x 0 [0,27]),(.x 0 [0,28]),(.x 0 [0,29]),(.x 0 [0,30]),(.x 0 [0,31]),(.x 0 [0,32]),(.x 0 [0,33]),(.x 0 [0,34]),(.x 0 [0,35])]),(.a [(.x 1 [0,0]),(.x 1 [0,1]),(.x 1 [0,2]),(.x 1 [0,3]),(.x 1 [0,4]),(.x 1 [0,5]),(.x 1 [0,6]),(.x 1 [0,7]),(.x 1 [0,8]),(.x 1 [0,9]),(.x 1 [0,10]),(.x 1 [0,11])])] .one
(.df .not [(.q 13)] .one
(.br 14 [] (.bad 70 [])
(.df (.call 15 [.no,.no]) [(.a [(.x 0 [0,0]),(.x 0 [0,1]),(.x 0 [0,2]),(.x 0 [0,3]),(.x 0 [0,4]),(.x 0 [0,5]),(.x 0 [0,6]),(.x 0 [0,7]),(.x 0 [0,8]),(.x 0 [0,9]),(.x 0 [0,10]),(.x 0 [0,11]),(.x 0 [0,12]),(.x 0 [0,13]),(.x 0 [0,14]),(.x 0 [0,15]),(.x 0 [0,16]),(.x 0 [0,17]),(.x 0 [0,18]),(.x 0 [0,19]),(.x 0 [0,20]),(.x 0 [0,21]),(.x 0 [0,22]),(.x 0 [0,23]),(.x 0 [0,24]),(.x 0 [0,25]),(.x 0 [0,26]),(.x 0 [0,27]),(.x 0 [0,28]),(.x 0 [0,29]),(.x 0 [0,30]),(.x 0 [0,31]),(.x 0 [0,32]),(.x 0 [0,33]),(.x 0 [0,34]),(.x 0 [0,35])]),(.a [(.x 1 [0,0]),(.x 1 [0,1]),(.x 1 [0,2]),(.x 1 [0,3]),(.x 1 [0,4]),(.x 1 [0,5]),(.x 1 [0,6]),(.x 1 [0,7]),(.x 1 [0,8]),(.x 1 [0,9]),(.x 1 [0,10]),(.x 1 [0,11])])] .one
(.df .not [(.q 15)] .one
(.br 16 [] (.bad 70 [])
(.df (.bin .neq 3) [(.x 1 [0,0]),(.x 1 [0,0])] .one
(.br 17 [] (.bad 70 [])
(.df (.eqr false 9 [(.i .i64),(.i .i64),(.i .i64),(.i .i64),(.i .i64),(.i .i64),(.i .i64),(.i .i64),(.i .i64)]) [(.x 1 [0,2]),(.x 1 [0,3]),(.x 1 [0,4]),(.x 1 [0,5]),(.x 1 [0,6]),(.x 1 [0,7]),(.x 1 [0,8]),(.x 1 [0,9]),(.x 1 [0,10]),(.x 1 [0,2]),(.x 1 [0,3]),(.x 1 [0,4]),(.x 1 [0,5]),(.x 1 [0,6]),(.x 1 [0,7]),(.x 1 [0,8]),(.x 1 [0,9]),(.x 1 [0,10])] .one
(.br 18 []
(.df (.bin .eql 3) [(.x 1 [0,1]),(.x 1 [0,1])] .one
(.br 19 []
(.df (.bin .neq 3) [(.x 0 [0,0]),(.i 3)] .one
(.br 20 []
(.ret (.k (.bool false)) (List.replicate 12 none) [])
(.df (.bin .neq 3) [(.x 0 [0,1]),(.i 2)] .one
(.br 21 []
(.ret (.k (.bool false)) (List.replicate 12 none) [])
(.df (.bin .neq 3) [(.x 1 [0,0]),(.i 1)] .one
(.br 22 []
(.ret (.k (.bool false)) (List.replicate 12 none) [])
(.df (.bin .neq 3) [(.x 1 [0,1]),(.i 9)] .one
(.br 23 []
(.ret (.k (.bool false)) (List.replicate 12 none) [])
(.df (.eqr true 9 [(.i .i64),(.i .i64),(.i .i64),(.i .i64),(.i .i64),(.i .i64),(.i .i64),(.i .i64),(.i .i64)]) [(.x 1 [0,2]),(.x 1 [0,3]),(.x 1 [0,4]),(.x 1 [0,5]),(.x 1 [0,6]),(.x 1 [0,7]),(.x 1 [0,8]),(.x 1 [0,9]),(.x 1 [0,10]),(.i 4),(.i 3),(.i 0),(.i 0),(.i 9),(.i 7),(.i 4),(.i 0),(.i 0)] .one
(.br 24 []
(.ret (.k (.bool false)) (List.replicate 12 none) [])
(.df (.len false) [(.x 1 [0,11])] .one
(.df (.bin .neq 3) [(.q 25),(.i 1)] .one
(.br 26 []
(.ret (.k (.bool false)) (List.replicate 12 none) [])
(.df (.call 6 [.no,.no,.no]) [(.i 1024),(.a [(.x 0 [0,0]),(.x 0 [0,1]),(.x 0 [0,2]),(.x 0 [0,3]),(.x 0 [0,4]),(.x 0 [0,5]),(.x 0 [0,6]),(.x 0 [0,7]),(.x 0 [0,8]),(.x 0 [0,9]),(.x 0 [0,10]),(.x 0 [0,11]),(.x 0 [0,12]),(.x 0 [0,13]),(.x 0 [0,14]),(.x 0 [0,15]),(.x 0 [0,16]),(.x 0 [0,17]),(.x 0 [0,18]),(.x 0 [0,19]),(.x 0 [0,20]),(.x 0 [0,21]),(.x 0 [0,22]),(.x 0 [0,23]),(.x 0 [0,24]),(.x 0 [0,25]),(.x 0 [0,26]),(.x 0 [0,27]),(.x 0 [0,28]),(.x 0 [0,29]),(.x 0 [0,30]),(.x 0 [0,31]),(.x 0 [0,32]),(.x 0 [0,33]),(.x 0 [0,34]),(.x 0 [0,35])]),(.a [(.x 1 [0,0]),(.x 1 [0,1]),(.x 1 [0,2]),(.x 1 [0,3]),(.x 1 [0,4]),(.x 1 [0,5]),(.x 1 [0,6]),(.x 1 [0,7]),(.x 1 [0,8]),(.x 1 [0,9]),(.x 1 [0,10]),(.x 1 [0,11])])] .one
(.br 27 []
(.df (.call 6 [.no,.no,.no]) [(.i 1024),(.a [(.x 0 [0,0]),(.x 0 [0,1]),(.x 0 [0,2]),(.x 0 [0,3]),(.x 0 [0,4]),(.x 0 [0,5]),(.x 0 [0,6]),(.x 0 [0,7]),(.x 0 [0,8]),(.x 0 [0,9]),(.x 0 [0,10]),(.x 0 [0,11]),(.x 0 [0,12]),(.x 0 [0,13]),(.x 0 [0,14]),(.x 0 [0,15]),(.x 0 [0,16]),(.x 0 [0,17]),(.x 0 [0,18]),(.x 0 [0,19]),(.x 0 [0,20]),(.x 0 [0,21]),(.x 0 [0,22]),(.x 0 [0,23]),(.x 0 [0,24]),(.x 0 [0,25]),(.x 0 [0,26]),(.x 0 [0,27]),(.x 0 [0,28]),(.x 0 [0,29]),(.x 0 [0,30]),(.x 0 [0,31]),(.x 0 [0,32]),(.x 0 [0,33]),(.x 0 [0,34]),(.x 0 [0,35])]),(.a [(.x 1 [0,0]),(.x 1 [0,1]),(.x 1 [0,2]),(.x 1 [0,3]),(.x 1 [0,4]),(.x 1 [0,5]),(.q 12),(.x 1 [0,7]),(.x 1 [0,8]),(.x 1 [0,9]),(.x 1 [0,10]),(.x 1 [0,11])])] .one
(.df .not [(.q 28)] .one
(.br 29 []
(.df (.call 6 [.no,.no,.no]) [(.i 4),(.a [(.x 0 [0,0]),(.x 0 [0,1]),(.x 0 [0,2]),(.x 0 [0,3]),(.x 0 [0,4]),(.x 0 [0,5]),(.x 0 [0,6]),(.x 0 [0,7]),(.x 0 [0,8]),(.x 0 [0,9]),(.x 0 [0,10]),(.x 0 [0,11]),(.x 0 [0,12]),(.x 0 [0,13]),(.x 0 [0,14]),(.x 0 [0,15]),(.x 0 [0,16]),(.x 0 [0,17]),(.x 0 [0,18]),(.x 0 [0,19]),(.x 0 [0,20]),(.x 0 [0,21]),(.x 0 [0,22]),(.x 0 [0,23]),(.x 0 [0,24]),(.x 0 [0,25]),(.x 0 [0,26]),(.x 0 [0,27]),(.x 0 [0,28]),(.x 0 [0,29]),(.x 0 [0,30]),(.x 0 [0,31]),(.x 0 [0,32]),(.x 0 [0,33]),(.x 0 [0,34]),(.x 0 [0,35])]),(.a [(.x 1 [0,0]),(.x 1 [0,1]),(.x 1 [0,2]),(.x 1 [0,3]),(.x 1 [0,4]),(.x 1 [0,5]),(.x 1 [0,6]),(.x 1 [0,7]),(.x 1 [0,8]),(.x 1 [0,9]),(.x 1 [0,10]),(.x 1 [0,11])])] .one
(.df .not [(.q 30)] .one
(.br 31 []
(.df (.call 6 [.no,.no,.no]) [(.i 4),(.a [(.i 0),(.i 0),(.k (.int .u8 0)),(.k (.int .u8 0)),(.k (.int .u8 0)),(.k (.int .u8 0)),(.k (.int .u8 0)),(.k (.int .u8 0)),(.k (.int .u8 0)),(.k (.int .u8 0)),(.k (.int .u8 0)),(.k (.int .u8 0)),(.k (.int .u8 0)),(.k (.int .u8 0)),(.k (.int .u8 0)),(.k (.int .u8 0)),(.k (.int .u8 0)),(.k (.int .u8 0)),(.k (.int .u8 0)),(.k (.int .u8 0)),(.k (.int .u8 0)),(.k (.int .u8 0)),(.k (.int .u8 0)),(.k (.int .u8 0)),(.k (.int .u8 0)),(.k (.int .u8 0)),(.k (.int .u8 0)),(.k (.int .u8 0)),(.k (.int .u8 0)),(.k (.int .u8 0)),(.k (.int .u8 0)),(.k (.int .u8 0)),(.k (.int .u8 0)),(.k (.int .u8 0)),(.i 0),(.i 0)]),(.a [(.i 0),(.i 0),(.i 0),(.i 0),(.i 0),(.i 0),(.i 0),(.i 0),(.i 0),(.i 0),(.i 0),(.k (.slice none 0 0))])] .one
(.df .not [(.q 32)] .one
(.ret (.q 33) (List.replicate 12 none) [])))
(.ret (.k (.bool false)) (List.replicate 12 none) []))))
(.ret (.k (.bool false)) (List.replicate 12 none) []))))
(.ret (.k (.bool false)) (List.replicate 12 none) [])))))))))))))))) (.bad 70 []))) (.bad 70 []))))))))))))))))))))))))))))))
def cfgSane:SX.Cfg:=⟨fun f=>f != 10,[],12,30⟩
set_option maxRecDepth 100000 in
theorem run_lsane(nb:Nat)(K A:Value→Nat→List Value→Prop):(SX.run (cxSn nb K A) cfgSane 100000 0 (SX.door 5 Tryd.f5 [] []) [.code (Tryd.f5.body.getD .skip),.top Tryd.f5]).strip=tree_lsane:=by kernel_rfl
set_option maxRecDepth 100000 in
set_option maxHeartbeats 4000000 in
theorem sane_any(w:World)(hlaid:Laid w):Calls Tryd.prog 5 #[] w fun e w'=>e=.returned (.bool true)∧Below w.heap.size w w':=by
 refine SX.calls_of_run (C:=cxSn w.heap.size (KW w) (fun _ _ _=>False)) (G:=cfgSane) (args:=[]) (sh:=[]) (ρ:=[]) 100000 tree_lsane (okSn _ _ _) Tryd.func5 rfl (run_lsane _ _ _) (by kernel_rfl) (by kernel_rfl) (by kernel_rfl) ?_ ?_ ⟨rfl,Nat.le_refl _⟩
 ·exact fun W hW v z xs h=>h W hW
 have hL:LaidK (cxSn w.heap.size (KW w) (fun _ _ _=>False)).K:=KW_laid hlaid
 unfold tree_lsane
 refine SX.E (.tuple #[sealV 3 2 rootX 492397864 288485507,.int .i64 0]) (fun α=>⟨[⟨.int .i64 5,0,[]⟩,⟨.int .i64 3,0,[]⟩,⟨.slice (some ⟨(α 0).b,0,none⟩) 2 2,9,lmL lsX⟩,⟨.slice (some ⟨(α 1).b,0,none⟩) 2 2,1,inL ssX⟩],⟨by kernel_rfl,by kernel_rfl,by kernel_rfl,by kernel_rfl,by kernel_rfl,by kernel_rfl,trivial⟩,.inl ⟨rfl,hL,5,3,_,_,lsX,ssX,rfl,by decide,by decide,fit_X,⟨by decide,by decide⟩,make_X.symm⟩,SX.noAli rfl⟩) ?_
 refine SX.VC_dn (fun v N=>∃ A c,v=.tuple #[leafV 1 9 lim1 (.slice A 1 c),.int .i64 0]∧N=[⟨.slice A 1 c,32,dgs [dg0]⟩]) (fun _=>rfl) (fun α=>⟨[⟨.int .i64 3,0,[]⟩,⟨.slice (some ⟨(α 0).b,0,none⟩) 2 2,9,lmL lsX⟩,⟨.slice (some ⟨(α 1).b,0,none⟩) 2 2,1,inL ssX⟩,⟨.int .i64 1,0,[]⟩],⟨by kernel_rfl,by kernel_rfl,by kernel_rfl,by kernel_rfl,by kernel_rfl,by kernel_rfl,trivial⟩,rfl,hL,3,1,_,_,lsX,ssX,rfl,by decide,by decide,fit_X,fun A c=>⟨A,c,by rw [open_X];rfl,by rw [open_X];rfl⟩⟩) ?_
 rintro _ _-⟨A1,c1,rfl,rfl⟩
 have hL1:LaidK ((cxSn w.heap.size (KW w) (fun _ _ _=>False)).plus ([⟨.slice A1 1 c1,32,dgs [dg0]⟩]++(cxSn w.heap.size (KW w) (fun _ _ _=>False)).N)).K:=L_pl hL
 refine SX.E (.tuple #[sealV 0 0 (fun _=>0) 0 0,.int .i64 110]) (fun α=>⟨[⟨.int .i64 0,0,[]⟩,⟨.int .i64 3,0,[]⟩,⟨.slice none 0 0,9,lmL []⟩,⟨.slice none 0 0,1,inL []⟩],⟨by kernel_rfl,by kernel_rfl,by kernel_rfl,by kernel_rfl,by kernel_rfl,by kernel_rfl,trivial⟩,.inl ⟨rfl,hL1,0,3,_,_,[],[],rfl,by decide,by decide,(fun z hz=>nomatch hz),⟨by decide,by decide⟩,make_key.symm⟩,SX.noAli rfl⟩) ?_
 refine SX.E (.tuple #[sealV 0 0 (fun _=>0) 0 0,.int .i64 350]) (fun α=>⟨[⟨.int .i64 1,0,[]⟩,⟨.int .i64 3,0,[]⟩,⟨.slice none 0 0,9,lmL []⟩,⟨.slice none 0 0,1,inL []⟩],⟨by kernel_rfl,by kernel_rfl,by kernel_rfl,by kernel_rfl,by kernel_rfl,by kernel_rfl,trivial⟩,.inl ⟨rfl,hL1,1,3,_,_,[],[],rfl,by decide,by decide,(fun z hz=>nomatch hz),⟨by decide,by decide⟩,make_none.symm⟩,SX.noAli rfl⟩) ?_
 refine SX.E (.tuple #[sealV 0 0 (fun _=>0) 0 0,.int .i64 350]) (fun α=>⟨[⟨.int .i64 5,0,[]⟩,⟨.int .i64 2,0,[]⟩,⟨.slice (some ⟨(α 0).b,0,none⟩) 2 2,9,lmL lsX⟩,⟨.slice (some ⟨(α 1).b,0,none⟩) 2 2,1,inL ssX⟩],⟨by kernel_rfl,by kernel_rfl,by kernel_rfl,by kernel_rfl,by kernel_rfl,by kernel_rfl,trivial⟩,.inl ⟨rfl,hL1,5,2,_,_,lsX,ssX,rfl,by decide,by decide,fit_X,⟨by decide,by decide⟩,make_other.symm⟩,SX.noAli rfl⟩) ?_
 refine SX.VC_dn (fun v N=>∃ A c,v=.tuple #[leafV 0 0 default (.slice A 0 c),.int .i64 1]∧N=[⟨.slice A 0 c,32,dgs []⟩]) (fun _=>rfl) (fun α=>⟨[⟨.int .i64 3,0,[]⟩,⟨.slice (some ⟨(α 0).b,0,none⟩) 2 2,9,lmL lsX⟩,⟨.slice (some ⟨(α 1).b,0,none⟩) 2 2,1,inL ssX⟩,⟨.int .i64 2,0,[]⟩],⟨by kernel_rfl,by kernel_rfl,by kernel_rfl,by kernel_rfl,by kernel_rfl,by kernel_rfl,trivial⟩,rfl,hL1,3,2,_,_,lsX,ssX,rfl,by decide,by decide,fit_X,fun A c=>⟨A,c,by rw [open_arg];rfl,by rw [open_arg];rfl⟩⟩) ?_
 rintro _ _-⟨A2,c2,rfl,rfl⟩
 have hL2:LaidK (((cxSn w.heap.size (KW w) (fun _ _ _=>False)).plus ([⟨.slice A1 1 c1,32,dgs [dg0]⟩]++(cxSn w.heap.size (KW w) (fun _ _ _=>False)).N)).plus ([⟨.slice A2 0 c2,32,dgs []⟩]++((cxSn w.heap.size (KW w) (fun _ _ _=>False)).plus ([⟨.slice A1 1 c1,32,dgs [dg0]⟩]++(cxSn w.heap.size (KW w) (fun _ _ _=>False)).N)).N)).K:=L_pl hL1
 have hK0:(((cxSn w.heap.size (KW w) (fun _ _ _=>False)).plus ([⟨.slice A1 1 c1,32,dgs [dg0]⟩]++(cxSn w.heap.size (KW w) (fun _ _ _=>False)).N)).plus ([⟨.slice A2 0 c2,32,dgs []⟩]++((cxSn w.heap.size (KW w) (fun _ _ _=>False)).plus ([⟨.slice A1 1 c1,32,dgs [dg0]⟩]++(cxSn w.heap.size (KW w) (fun _ _ _=>False)).N)).N)).K (.slice none 0 0) 32 (dgs []):=SX.K_pl (SX.K_pl (C:=cxSn w.heap.size (KW w) (fun _ _ _=>False)) nil_rd)
 have hN1:(⟨.slice A1 1 c1,32,dgs [dg0]⟩:SX.Arg)∈([⟨.slice A1 1 c1,32,dgs [dg0]⟩]++(cxSn w.heap.size (KW w) (fun _ _ _=>False)).N):=List.mem_append_left _ (List.mem_cons_self ..)
 have hK1:(((cxSn w.heap.size (KW w) (fun _ _ _=>False)).plus ([⟨.slice A1 1 c1,32,dgs [dg0]⟩]++(cxSn w.heap.size (KW w) (fun _ _ _=>False)).N)).plus ([⟨.slice A2 0 c2,32,dgs []⟩]++((cxSn w.heap.size (KW w) (fun _ _ _=>False)).plus ([⟨.slice A1 1 c1,32,dgs [dg0]⟩]++(cxSn w.heap.size (KW w) (fun _ _ _=>False)).N)).N)).K (.slice A1 1 c1) 32 (dgs [dg0]):=SX.K_pl (SX.K_mem hN1)
 have f1:∀ z∈leafF 1 lim1 9,z.fits:=leafF_fits ⟨by decide,by decide⟩ (by unfold Lim.fit i64ok;decide) ⟨by decide,by decide⟩
 have f2:∀ z∈leafF 1 lim2 9,z.fits:=leafF_fits ⟨by decide,by decide⟩ (by unfold Lim.fit i64ok;decide) ⟨by decide,by decide⟩
 have f0:∀ z∈leafF 0 default 0,z.fits:=leafF_fits ⟨by decide,by decide⟩ (by unfold Lim.fit i64ok;decide) ⟨by decide,by decide⟩
 have g1:∀ z∈signF 3 2 rootX,z.fits:=signF_fits ⟨by decide,by decide⟩ ⟨by decide,by decide⟩
 have g0:∀ z∈signF 0 0 (fun _=>0),z.fits:=signF_fits ⟨by decide,by decide⟩ ⟨by decide,by decide⟩
 have d1:=check_X
 have d2:=check_Y
 have d3:=check_4
 have d4:=check_0
 have d5:=fits_X
 generalize rootX=R at *
 refine SX.D (.bool false) ?_
 refine SX.B false (fun h=>absurd h (by decide)) (fun _=>?_)
 refine SX.D (.bool false) ?_
 refine SX.B false (fun h=>absurd h (by decide)) (fun _=>?_)
 refine SX.D (.bool false) ?_
 refine SX.B false (fun h=>absurd h (by decide)) (fun _=>?_)
 refine SX.D (.bool false) ?_
 refine SX.B false (fun h=>absurd h (by decide)) (fun _=>?_)
 refine SX.D (.bool false) ?_
 refine SX.B false (fun h=>absurd h (by decide)) (fun _=>?_)
 refine SX.D (.bool false) ?_
 refine SX.B false (fun h=>absurd h (by decide)) (fun _=>?_)
 refine SX.D (.int .i64 10) ?_
 refine SX.E (.bool true) (fun α=>⟨[⟨sealV 3 2 R 492397864 288485507,0,[]⟩,⟨leafV 1 9 lim1 (.slice A1 1 c1),0,[]⟩],⟨by kernel_rfl,by kernel_rfl,by kernel_rfl,by kernel_rfl,trivial⟩,.inr (.inl ⟨rfl,hL2,3,2,492397864,288485507,R,1,9,lim1,[dg0],_,rfl,hK1,f1,by rw [decide_eq_true d5]⟩),SX.noAli rfl⟩) ?_
 refine SX.D (.bool false) ?_
 refine SX.B false (fun h=>absurd h (by decide)) (fun _=>?_)
 refine SX.E (.bool true) (fun α=>⟨[⟨sealV 3 2 R 492397864 288485507,0,[]⟩,⟨leafV 1 9 lim1 (.slice A1 1 c1),0,[]⟩],⟨by kernel_rfl,by kernel_rfl,by kernel_rfl,by kernel_rfl,trivial⟩,.inr (.inl ⟨rfl,hL2,3,2,492397864,288485507,R,1,9,lim1,[dg0],_,rfl,hK1,f1,by rw [decide_eq_true d5]⟩),SX.noAli rfl⟩) ?_
 refine SX.D (.bool false) ?_
 refine SX.B false (fun h=>absurd h (by decide)) (fun _=>?_)
 refine SX.D (.bool false) ?_
 refine SX.B false (fun h=>absurd h (by decide)) (fun _=>?_)
 refine SX.E (.bool (false ^^ decide (lim1=lim1))) (fun α=>SX.eqr_rel (f:=cellsLm) cellsLm_inj (y:=lim1) (z:=lim1) (by kernel_rfl) (by kernel_rfl) (by kernel_rfl)) ?_
 refine SX.B (false ^^ decide (lim1=lim1)) (fun _=>?_) (fun h=>absurd h (by decide))
 refine SX.D (.bool true) ?_
 refine SX.B true (fun _=>?_) (fun h=>absurd h (by decide))
 refine SX.D (.bool false) ?_
 refine SX.B false (fun h=>absurd h (by decide)) (fun _=>?_)
 refine SX.D (.bool false) ?_
 refine SX.B false (fun h=>absurd h (by decide)) (fun _=>?_)
 refine SX.D (.bool false) ?_
 refine SX.B false (fun h=>absurd h (by decide)) (fun _=>?_)
 refine SX.D (.bool false) ?_
 refine SX.B false (fun h=>absurd h (by decide)) (fun _=>?_)
 refine SX.E (.bool (true ^^ decide (lim1=lim1))) (fun α=>SX.eqr_rel (f:=cellsLm) cellsLm_inj (y:=lim1) (z:=lim1) (by kernel_rfl) (by kernel_rfl) (by kernel_rfl)) ?_
 refine SX.B (true ^^ decide (lim1=lim1)) (fun h=>absurd h (by decide)) (fun _=>?_)
 refine SX.D (.int .i64 1) ?_
 refine SX.D (.bool false) ?_
 refine SX.B false (fun h=>absurd h (by decide)) (fun _=>?_)
 refine SX.E (.bool true) (fun α=>⟨[⟨.int .i64 1024,0,[]⟩,⟨sealV 3 2 R 492397864 288485507,0,[]⟩,⟨leafV 1 9 lim1 (.slice A1 1 c1),0,[]⟩],⟨by kernel_rfl,by kernel_rfl,by kernel_rfl,by kernel_rfl,by kernel_rfl,by kernel_rfl,trivial⟩,.inr (.inr ⟨rfl,hL2,1024,3,2,492397864,288485507,R,1,9,lim1,[dg0],_,rfl,hK1,f1,g1,by rw [decide_eq_true d1]⟩),SX.noAli rfl⟩) ?_
 refine SX.B true (fun _=>?_) (fun h=>absurd h (by decide))
 refine SX.E (.bool false) (fun α=>⟨[⟨.int .i64 1024,0,[]⟩,⟨sealV 3 2 R 492397864 288485507,0,[]⟩,⟨leafV 1 9 lim2 (.slice A1 1 c1),0,[]⟩],⟨by kernel_rfl,by kernel_rfl,by kernel_rfl,by kernel_rfl,by kernel_rfl,by kernel_rfl,trivial⟩,.inr (.inr ⟨rfl,hL2,1024,3,2,492397864,288485507,R,1,9,lim2,[dg0],_,rfl,hK1,f2,g1,by rw [decide_eq_false d2]⟩),SX.noAli rfl⟩) ?_
 refine SX.D (.bool true) ?_
 refine SX.B true (fun _=>?_) (fun h=>absurd h (by decide))
 refine SX.E (.bool false) (fun α=>⟨[⟨.int .i64 4,0,[]⟩,⟨sealV 3 2 R 492397864 288485507,0,[]⟩,⟨leafV 1 9 lim1 (.slice A1 1 c1),0,[]⟩],⟨by kernel_rfl,by kernel_rfl,by kernel_rfl,by kernel_rfl,by kernel_rfl,by kernel_rfl,trivial⟩,.inr (.inr ⟨rfl,hL2,4,3,2,492397864,288485507,R,1,9,lim1,[dg0],_,rfl,hK1,f1,g1,by rw [decide_eq_false d3]⟩),SX.noAli rfl⟩) ?_
 refine SX.D (.bool true) ?_
 refine SX.B true (fun _=>?_) (fun h=>absurd h (by decide))
 refine SX.E (.bool false) (fun α=>⟨[⟨.int .i64 4,0,[]⟩,⟨sealV 0 0 (fun _=>0) 0 0,0,[]⟩,⟨leafV 0 0 default (.slice none 0 0),0,[]⟩],⟨by kernel_rfl,by kernel_rfl,by kernel_rfl,by kernel_rfl,by kernel_rfl,by kernel_rfl,trivial⟩,.inr (.inr ⟨rfl,hL2,4,0,0,0,0,(fun _=>0),0,0,default,[],_,rfl,hK0,f0,g0,by rw [decide_eq_false d4]⟩),SX.noAli rfl⟩) ?_
 refine SX.D (.bool true) ?_
 exact SX.F (.bool true) rfl
theorem chk0{b:Bod.Bd}:b.chk=0↔b.okB=true:=by
 unfold Bod.Bd.chk
 by_cases h:b.okB=true<;>simp [h]
theorem allB_zero{b:Bod.Bd}{l:List Bod.Cp}(h:b.allE l≠0):b.allB l=Bod.Bd.zero:=by unfold Bod.Bd.allB;rw [if_neg h]
theorem set_name(b:Bod.Bd)(r l:Nat)(v:Int):(b.set r l v).name=b.name:=by
 unfold Bod.Bd.set
 split<;>rfl
theorem meets_name(l:List Bod.Cp):∀ b:Bod.Bd,(b.meets l).name=b.name:=by
 induction l with
 | nil=>intro b;rfl
 | cons c l ih=>intro b;show((b.meet c).meets l).name=_;rw [ih];exact set_name ..
theorem meets_succ{b:Bod.Bd}{cs:List Bod.Cp}{i:Nat}{z:Bod.Cp}(hz:cs[i]?=some z):b.meets (cs.take (i+1))=(b.meets (cs.take i)).meet z:=by
 unfold Bod.Bd.meets
 rw [List.take_add_one,hz,List.foldl_append]
 rfl
theorem oks_succ{cs:List Bod.Cp}{i:Nat}{z:Bod.Cp}(hz:cs[i]?=some z)(h:∀ c∈cs.take i,c.ok=true)(hk:z.ok=true):∀ c∈cs.take (i+1),c.ok=true:=by
 intro c hc
 rw [List.take_add_one,hz]at hc
 simp only [Option.toList_some,List.mem_append,List.mem_singleton]at hc
 rcases hc with hc|rfl
 ·exact h c hc
 exact hk
theorem min_least(a b:Int):SX.minV (.int .i64 a) (.int .i64 b)=some (.int .i64 (Bod.least a b)):=by
 simp only [SX.minV,minI,Bod.least,if_true]
def RF1(f:FuncId)(xs:List SX.Arg)(v:Value):Prop :=
 (f=26∧∃ b:Bod.Bd,xs=[⟨valBd b,0,[]⟩]∧b.name.size≤maxLen∧v=.int .i64 b.chk) ∨
 (f=33∧∃ c:Bod.Cp,xs=[⟨valCp c,0,[]⟩]∧v=.bool c.ok)
def shpF1:FuncId→Option SX.Sh:=fun f=>if f=26 then some .one else if f=33 then some .one else none
noncomputable def cxF1(K A:Value→Nat→List Value→Prop):SX.Cx:={ P:=Tryd.prog,R:=fun _=>RF1,shp:=shpF1,K:=K,A:=A,trm:=true,tl:=[71,72] }
theorem okF1(K A:Value→Nat→List Value→Prop):(cxF1 K A).Ok:=by
 refine SX.Cx.ok_of (fun _=>rfl) ?_
 intro K f xs v W hR hrd hKf
 rcases hR with ⟨rfl,b,rfl,hs,rfl⟩|⟨rfl,c,rfl,rfl⟩
 ·exact(bCheck_any b W hs).mono fun e w' h=>SX.plainOk rfl h
 rw [← capOk_ok]
 exact(cvalid_any c.kind c.limb c.n W).mono fun e w' h=>SX.plainOk rfl h
def tree_bAll:SX.Tree :=
(.df (.call 26 [.no]) [(.a (SX.Z 0 17))] .one
(.df (.bin .neq 44) [(.q 18),(.i 0)] .one
(.br 19 []
(.ret (.t [(.a [(.k (.string ⟨#[]⟩)),(.i 0),(.i 0),(.i 0),(.i 0),(.i 0),(.i 0),(.i 0),(.i 0),(.i 0),(.i 0),(.i 0),(.i 0),(.i 0),(.i 0),(.i 0),(.i 0)]),(.q 18)]) [] [])
(.df (.len false) [(.q 17)] .one
(.df (.bin .gtr 3) [(.q 20),(.i 64)] .one
(.br 21 []
(.ret (.t [(.a [(.k (.string ⟨#[]⟩)),(.i 0),(.i 0),(.i 0),(.i 0),(.i 0),(.i 0),(.i 0),(.i 0),(.i 0),(.i 0),(.i 0),(.i 0),(.i 0),(.i 0),(.i 0),(.i 0)]),(.i 2)]) [] [])
(.df (.len false) [(.q 17)] .one
(.loop ([(.i 0)]++SX.Z 1 16) [.one,.one,.one,.one,.one,.one,.one,.one,.one,.one,.one,.one,.one,.one,.one,.one,.one]
(.df (.bin .lss 3) [(.q 23),(.q 22)] .one
(.br 40 []
(.df .bnd [(.q 17),(.q 23)] .one
(.df (.elems 3 0 3) [(.q 17),(.q 23)] (.ag 3)
(.df (.call 33 [.no]) [(.a [(.x 42 [0]),(.x 42 [1]),(.x 42 [2])])] .one
(.df .not [(.q 43)] .one
(.br 44 []
(.ret (.t [(.a [(.k (.string ⟨#[]⟩)),(.i 0),(.i 0),(.i 0),(.i 0),(.i 0),(.i 0),(.i 0),(.i 0),(.i 0),(.i 0),(.i 0),(.i 0),(.i 0),(.i 0),(.i 0),(.i 0)]),(.i 1)]) [] [])
(.sp 42 [0] [(.bad 46 []),
(.sp 42 [1] [
(.df .min [(.q 35),(.x 42 [2])] .one
(.df (.bin .add 3) [(.q 23),(.i 1)] .one
(.again 0 ([(.q 46)]++SX.Z 24 11++[(.q 45)]++SX.Z 36 4)))),
(.df .min [(.q 36),(.x 42 [2])] .one
(.df (.bin .add 3) [(.q 23),(.i 1)] .one
(.again 0 ([(.q 46)]++SX.Z 24 12++[(.q 45)]++SX.Z 37 3)))),
(.df .min [(.q 37),(.x 42 [2])] .one
(.df (.bin .add 3) [(.q 23),(.i 1)] .one
(.again 0 ([(.q 46)]++SX.Z 24 13++[(.q 45),(.q 38),(.q 39)]))))]),
(.sp 42 [1] [
(.df .min [(.q 32),(.x 42 [2])] .one
(.df (.bin .add 3) [(.q 23),(.i 1)] .one
(.again 0 ([(.q 46)]++SX.Z 24 8++[(.q 45)]++SX.Z 33 7)))),
(.df .min [(.q 33),(.x 42 [2])] .one
(.df (.bin .add 3) [(.q 23),(.i 1)] .one
(.again 0 ([(.q 46)]++SX.Z 24 9++[(.q 45)]++SX.Z 34 6)))),
(.df .min [(.q 34),(.x 42 [2])] .one
(.df (.bin .add 3) [(.q 23),(.i 1)] .one
(.again 0 ([(.q 46)]++SX.Z 24 10++[(.q 45)]++SX.Z 35 5))))]),
(.df .min [(.q 27),(.x 42 [2])] .one
(.df (.bin .add 3) [(.q 23),(.i 1)] .one
(.again 0 ([(.q 46)]++SX.Z 24 3++[(.q 45)]++SX.Z 28 12)))),
(.df .min [(.q 28),(.x 42 [2])] .one
(.df (.bin .add 3) [(.q 23),(.i 1)] .one
(.again 0 ([(.q 46)]++SX.Z 24 4++[(.q 45)]++SX.Z 29 11)))),
(.df .min [(.q 25),(.x 42 [2])] .one
(.df (.bin .add 3) [(.q 23),(.i 1)] .one
(.again 0 ([(.q 46),(.q 24),(.q 45)]++SX.Z 26 14)))),
(.df .min [(.q 38),(.x 42 [2])] .one
(.df (.bin .add 3) [(.q 23),(.i 1)] .one
(.again 0 ([(.q 46)]++SX.Z 24 14++[(.q 45),(.q 39)]))))]))))))
(.ret (.t [(.a ([(.q 0)]++SX.Z 24 16)),(.i 0)]) [] [])))))))))))
def args_bAll:List SX.V:=[.a ((List.range 17).map fun j=>.x j []),.x 17 []]
set_option maxRecDepth 100000 in
theorem run_bAll(K A:Value→Nat→List Value→Prop):(SX.run (cxF1 K A) ⟨fun f=>true,[⟨28,8,(.s 24,.one)::(List.range 16).map fun j=>(.c 2 (j+1),.one)⟩],0,100⟩ 100000 0 (SX.door 28 Tryd.f28 args_bAll (List.replicate 18 .one)) [.code (Tryd.f28.body.getD .skip),.top Tryd.f28]).strip=tree_bAll:=by kernel_rfl
set_option maxRecDepth 100000 in
set_option maxHeartbeats 4000000 in
theorem bAll_any(b:Bod.Bd)(cs:List Bod.Cp)(A:Option Addr)(n c:Nat)(w:World)(hs:b.name.size≤maxLen)(hr:Rd w 3 A n (cpL cs))(hn:n≤9223372036854775807)(hc:n≤c):Calls Tryd.prog 28 #[valBd b,.slice A n c] w fun e w'=>e=.returned (.tuple #[valBd (b.allB cs),.int .i64 (b.allE cs)])∧Below w.heap.size w w':=by
 refine SX.calls_of_run (C:=cxF1 (fun s sz cells=>s=.slice A n c∧sz=3∧cells=cpL cs) (fun _ _ _=>False)) (G:=⟨fun f=>true,[⟨28,8,(.s 24,.one)::(List.range 16).map fun j=>(.c 2 (j+1),.one)⟩],0,100⟩) (args:=args_bAll) (sh:=(List.replicate 18 .one)) (ρ:=(cellsBd b++[.slice A n c])) 100000 tree_bAll (okF1 _ _) Tryd.func28 rfl (run_bAll _ _) (by kernel_rfl) (by kernel_rfl) (by kernel_rfl) ?_ ?_
 ·rintro W hW s sz cells ⟨rfl,rfl,rfl⟩;exact⟨hr.same0 hW,hc⟩
 have hA:=SX.rd_some hr
 have hln:cs.length=n:=by have:=hr.1;rw [cpL_len]at this;omega
 unfold tree_bAll
 refine SX.E (.int .i64 b.chk) (fun α=>⟨[⟨valBd b,0,[]⟩],⟨by kernel_rfl,by kernel_rfl,trivial⟩,.inl ⟨rfl,_,rfl,hs,rfl⟩,SX.noAli rfl⟩) ?_
 refine SX.D (.bool ((b.chk:Int) != 0)) ?_
 refine SX.B ((b.chk:Int) != 0) (fun h19=>?_) (fun h19=>?_)
 ·try simp only [NRM]at h19
  have hE:b.allE cs=b.chk:=by have q:b.okB≠true:=(fun hk=>by have q:=h19;simp [chk0.2 hk]at q);unfold Bod.Bd.allE Bod.Bd.chk;rw [if_neg q,if_neg q]
  have hB:=allB_zero (b:=b) (l:=cs) (by rw [hE];simpa using h19)
  exact SX.F (.tuple #[valBd Bod.Bd.zero,.int .i64 b.chk]) (by rw [hE,hB])
 try simp only [NRM]at h19
 have hok:b.okB=true:=chk0.1 (by simpa using h19)
 refine SX.D (.int .i64 (((n:Nat):Int))) ?_
 refine SX.D (.bool (decide (((n:Nat):Int)>64))) ?_
 refine SX.B (decide (((n:Nat):Int)>64)) (fun h21=>?_) (fun h21=>?_)
 ·try simp only [NRM]at h21
  have hE:b.allE cs=2:=by unfold Bod.Bd.allE;rw [if_pos hok,if_pos (by omega)]
  have hB:=allB_zero (b:=b) (l:=cs) (by rw [hE];decide)
  exact SX.F (.tuple #[valBd Bod.Bd.zero,.int .i64 2]) (by rw [hE,hB])
 try simp only [NRM]at h21
 refine SX.D (.int .i64 (((n:Nat):Int))) ?_
 refine SX.VC_loop (fun xs=>∃ (i:Nat) (cur:Bod.Bd),xs=[.int .i64 (i:Int),.int .i64 cur.weight,.int .i64 cur.lift,.int .i64 cur.girth,.int .i64 cur.step,.int .i64 cur.jump,.int .i64 cur.r0,.int .i64 cur.r1,.int .i64 cur.r2,.int .i64 cur.s0,.int .i64 cur.s1,.int .i64 cur.s2,.int .i64 cur.t0,.int .i64 cur.t1,.int .i64 cur.t2,.int .i64 cur.effort,.int .i64 cur.recover]∧i≤n∧cur=b.meets (cs.take i)∧∀ c∈cs.take i,c.ok=true) (fun xs=>match xs with|(.int _ i)::_=>n-i.toNat|_=>0) (fun α=>⟨0,b,by kernel_rfl,by omega,rfl,by simp⟩) ?_
 rintro xs-⟨i,cur,rfl,hin,hcur,hoks⟩
 refine SX.D (.bool (decide (((i:Nat):Int)<((n:Nat):Int)))) ?_
 refine SX.B (decide (((i:Nat):Int)<((n:Nat):Int))) (fun h40=>?_) (fun h40=>?_)
 ·try simp only [NRM]at h40
  obtain⟨⟨zk,zl,zn⟩,hz⟩:∃ z,cs[i]?=some z:=⟨_,List.getElem?_eq_getElem (by omega)⟩
  refine SX.E (.bool true) (fun α=>SX.extBnd (A:=A) (n:=n) (c:=c) (j:=i) hA (by kernel_rfl) (by kernel_rfl) (by omega)) ?_
  refine SX.E (.agg (cellsCp (⟨zk,zl,zn⟩:Bod.Cp)).toArray) (fun α=>SX.extElems (f:=cellsCp) (l:=cs) (A:=A) (n:=n) (c:=c) (j:=i) (z:=(⟨zk,zl,zn⟩:Bod.Cp)) (fun _=>rfl) hA (by kernel_rfl) (by kernel_rfl) (by omega) ⟨rfl,rfl,rfl⟩ hz) ?_
  refine SX.E (.bool ((⟨zk,zl,zn⟩:Bod.Cp).ok)) (fun α=>⟨[⟨valCp ⟨zk,zl,zn⟩,0,[]⟩],⟨by kernel_rfl,by kernel_rfl,trivial⟩,.inr (⟨rfl,_,rfl,rfl⟩),SX.noAli rfl⟩) ?_
  refine SX.D (.bool (!((⟨zk,zl,zn⟩:Bod.Cp).ok))) ?_
  refine SX.B (!((⟨zk,zl,zn⟩:Bod.Cp).ok)) (fun h44=>?_) (fun h44=>?_)
  ·try simp only [NRM]at h44
   have hE:b.allE cs=1:=by unfold Bod.Bd.allE;rw [if_pos hok,if_neg (by omega),if_neg (fun hk=>by have q:=h44;simp [List.all_eq_true.1 hk _ (List.mem_of_getElem? hz)]at q)]
   have hB:=allB_zero (b:=b) (l:=cs) (by rw [hE];decide)
   exact SX.F (.tuple #[valBd Bod.Bd.zero,.int .i64 1]) (by rw [hE,hB])
  try simp only [NRM]at h44
  have hzo:(⟨zk,zl,zn⟩:Bod.Cp).ok=true:=by simpa using h44
  have hcap:capOk zk zl zn:=by have q:=capOk_ok ⟨zk,zl,zn⟩;rw [hzo,decide_eq_true_eq]at q;exact q
  obtain⟨j,rfl⟩:∃ j:Nat,zk=j:=⟨zk.toNat,by unfold capOk at hcap;omega⟩
  have hk:j=1∨j=2∨j=3∨j=4∨j=5∨j=6:=by unfold capOk at hcap;omega
  refine SX.VC_sp j (by show j<7;omega) (by kernel_rfl) fun t ht=>?_
  rcases hk with rfl|rfl|rfl|rfl|rfl|rfl
  ·cases (Option.some.inj ht)
   obtain⟨m,rfl⟩:∃ m:Nat,zl=m:=⟨zl.toNat,by unfold capOk at hcap;omega⟩
   have hm:m=0∨m=1∨m=2:=by unfold capOk at hcap;omega
   refine SX.VC_sp m (by show m<3;omega) (by kernel_rfl) fun t ht=>?_
   rcases hm with rfl|rfl|rfl
   ·cases (Option.some.inj ht)
    refine SX.E (.int .i64 ((Bod.least cur.t0 zn))) (fun α=>Eq.trans (b:=SX.minV (.int .i64 cur.t0) (.int .i64 zn)) (by kernel_rfl) (min_least _ _)) ?_
    refine SX.E (.int .i64 (((i+1:Nat):Int))) (fun α=>SX.W1 i) ?_
    exact SX.VC_again fun α=>⟨⟨i+1,cur.meet ⟨1,0,zn⟩,by kernel_rfl,by omega,by rw [hcur];exact(meets_succ hz).symm,oks_succ hz hoks hzo⟩,cast (by kernel_rfl) (show n-((i+1:Nat):Int).toNat<n-(i:Int).toNat by omega)⟩
   ·cases (Option.some.inj ht)
    refine SX.E (.int .i64 ((Bod.least cur.t1 zn))) (fun α=>Eq.trans (b:=SX.minV (.int .i64 cur.t1) (.int .i64 zn)) (by kernel_rfl) (min_least _ _)) ?_
    refine SX.E (.int .i64 (((i+1:Nat):Int))) (fun α=>SX.W1 i) ?_
    exact SX.VC_again fun α=>⟨⟨i+1,cur.meet ⟨1,1,zn⟩,by kernel_rfl,by omega,by rw [hcur];exact(meets_succ hz).symm,oks_succ hz hoks hzo⟩,cast (by kernel_rfl) (show n-((i+1:Nat):Int).toNat<n-(i:Int).toNat by omega)⟩
   cases (Option.some.inj ht)
   refine SX.E (.int .i64 ((Bod.least cur.t2 zn))) (fun α=>Eq.trans (b:=SX.minV (.int .i64 cur.t2) (.int .i64 zn)) (by kernel_rfl) (min_least _ _)) ?_
   refine SX.E (.int .i64 (((i+1:Nat):Int))) (fun α=>SX.W1 i) ?_
   exact SX.VC_again fun α=>⟨⟨i+1,cur.meet ⟨1,2,zn⟩,by kernel_rfl,by omega,by rw [hcur];exact(meets_succ hz).symm,oks_succ hz hoks hzo⟩,cast (by kernel_rfl) (show n-((i+1:Nat):Int).toNat<n-(i:Int).toNat by omega)⟩
  ·cases (Option.some.inj ht)
   obtain⟨m,rfl⟩:∃ m:Nat,zl=m:=⟨zl.toNat,by unfold capOk at hcap;omega⟩
   have hm:m=0∨m=1∨m=2:=by unfold capOk at hcap;omega
   refine SX.VC_sp m (by show m<3;omega) (by kernel_rfl) fun t ht=>?_
   rcases hm with rfl|rfl|rfl
   ·cases (Option.some.inj ht)
    refine SX.E (.int .i64 ((Bod.least cur.s0 zn))) (fun α=>Eq.trans (b:=SX.minV (.int .i64 cur.s0) (.int .i64 zn)) (by kernel_rfl) (min_least _ _)) ?_
    refine SX.E (.int .i64 (((i+1:Nat):Int))) (fun α=>SX.W1 i) ?_
    exact SX.VC_again fun α=>⟨⟨i+1,cur.meet ⟨2,0,zn⟩,by kernel_rfl,by omega,by rw [hcur];exact(meets_succ hz).symm,oks_succ hz hoks hzo⟩,cast (by kernel_rfl) (show n-((i+1:Nat):Int).toNat<n-(i:Int).toNat by omega)⟩
   ·cases (Option.some.inj ht)
    refine SX.E (.int .i64 ((Bod.least cur.s1 zn))) (fun α=>Eq.trans (b:=SX.minV (.int .i64 cur.s1) (.int .i64 zn)) (by kernel_rfl) (min_least _ _)) ?_
    refine SX.E (.int .i64 (((i+1:Nat):Int))) (fun α=>SX.W1 i) ?_
    exact SX.VC_again fun α=>⟨⟨i+1,cur.meet ⟨2,1,zn⟩,by kernel_rfl,by omega,by rw [hcur];exact(meets_succ hz).symm,oks_succ hz hoks hzo⟩,cast (by kernel_rfl) (show n-((i+1:Nat):Int).toNat<n-(i:Int).toNat by omega)⟩
   cases (Option.some.inj ht)
   refine SX.E (.int .i64 ((Bod.least cur.s2 zn))) (fun α=>Eq.trans (b:=SX.minV (.int .i64 cur.s2) (.int .i64 zn)) (by kernel_rfl) (min_least _ _)) ?_
   refine SX.E (.int .i64 (((i+1:Nat):Int))) (fun α=>SX.W1 i) ?_
   exact SX.VC_again fun α=>⟨⟨i+1,cur.meet ⟨2,2,zn⟩,by kernel_rfl,by omega,by rw [hcur];exact(meets_succ hz).symm,oks_succ hz hoks hzo⟩,cast (by kernel_rfl) (show n-((i+1:Nat):Int).toNat<n-(i:Int).toNat by omega)⟩
  ·cases (Option.some.inj ht)
   refine SX.E (.int .i64 ((Bod.least cur.step zn))) (fun α=>Eq.trans (b:=SX.minV (.int .i64 cur.step) (.int .i64 zn)) (by kernel_rfl) (min_least _ _)) ?_
   refine SX.E (.int .i64 (((i+1:Nat):Int))) (fun α=>SX.W1 i) ?_
   exact SX.VC_again fun α=>⟨⟨i+1,cur.meet ⟨3,zl,zn⟩,by kernel_rfl,by omega,by rw [hcur];exact(meets_succ hz).symm,oks_succ hz hoks hzo⟩,cast (by kernel_rfl) (show n-((i+1:Nat):Int).toNat<n-(i:Int).toNat by omega)⟩
  ·cases (Option.some.inj ht)
   refine SX.E (.int .i64 ((Bod.least cur.jump zn))) (fun α=>Eq.trans (b:=SX.minV (.int .i64 cur.jump) (.int .i64 zn)) (by kernel_rfl) (min_least _ _)) ?_
   refine SX.E (.int .i64 (((i+1:Nat):Int))) (fun α=>SX.W1 i) ?_
   exact SX.VC_again fun α=>⟨⟨i+1,cur.meet ⟨4,zl,zn⟩,by kernel_rfl,by omega,by rw [hcur];exact(meets_succ hz).symm,oks_succ hz hoks hzo⟩,cast (by kernel_rfl) (show n-((i+1:Nat):Int).toNat<n-(i:Int).toNat by omega)⟩
  ·cases (Option.some.inj ht)
   refine SX.E (.int .i64 ((Bod.least cur.lift zn))) (fun α=>Eq.trans (b:=SX.minV (.int .i64 cur.lift) (.int .i64 zn)) (by kernel_rfl) (min_least _ _)) ?_
   refine SX.E (.int .i64 (((i+1:Nat):Int))) (fun α=>SX.W1 i) ?_
   exact SX.VC_again fun α=>⟨⟨i+1,cur.meet ⟨5,zl,zn⟩,by kernel_rfl,by omega,by rw [hcur];exact(meets_succ hz).symm,oks_succ hz hoks hzo⟩,cast (by kernel_rfl) (show n-((i+1:Nat):Int).toNat<n-(i:Int).toNat by omega)⟩
  cases (Option.some.inj ht)
  refine SX.E (.int .i64 ((Bod.least cur.effort zn))) (fun α=>Eq.trans (b:=SX.minV (.int .i64 cur.effort) (.int .i64 zn)) (by kernel_rfl) (min_least _ _)) ?_
  refine SX.E (.int .i64 (((i+1:Nat):Int))) (fun α=>SX.W1 i) ?_
  exact SX.VC_again fun α=>⟨⟨i+1,cur.meet ⟨6,zl,zn⟩,by kernel_rfl,by omega,by rw [hcur];exact(meets_succ hz).symm,oks_succ hz hoks hzo⟩,cast (by kernel_rfl) (show n-((i+1:Nat):Int).toNat<n-(i:Int).toNat by omega)⟩
 try simp only [NRM]at h40
 have ht:cs.take i=cs:=List.take_of_length_le (by omega)
 rw [ht]at hcur hoks
 obtain⟨hE,hB⟩:=Bod.Bd.all_yes (b:=b) (l:=cs) hok (by omega) (List.all_eq_true.2 hoks)
 have hnm:cur.name=b.name:=by rw [hcur];exact meets_name cs b
 exact SX.F (.tuple #[.agg #[.string b.name,.int .i64 cur.weight,.int .i64 cur.lift,.int .i64 cur.girth,.int .i64 cur.step,.int .i64 cur.jump,.int .i64 cur.r0,.int .i64 cur.r1,.int .i64 cur.r2,.int .i64 cur.s0,.int .i64 cur.s1,.int .i64 cur.s2,.int .i64 cur.t0,.int .i64 cur.t1,.int .i64 cur.t2,.int .i64 cur.effort,.int .i64 cur.recover],.int .i64 0]) (by rw [hE,hB,← hcur];simp only [valBd,cellsBd,hnm])
theorem rlen_of{C:SX.Cx}{ρ:List Value}{α:Nat→SX.AV}{β:Type}{f:β→List Value}{sz:Nat}(hf:∀ a,(f a).length=sz)(h0:0<sz){l:List β}{cc:SX.V}(hc:SX.cellsV (cc.den ρ α)=l.flatMap f):SX.Opq.rel C ρ α (.rlen sz) [cc] (.int .i64 ((l.length:Nat):Int)):=by
 show _=_
 rw [hc,SX.flat_len hf,Nat.mul_div_cancel _ h0]
def capOf(x:Lim):Bod.Cp:=⟨x.kind,x.limb,x.n⟩
def capsL(l:List Lim):List Bod.Cp:=l.map capOf
theorem cellsCp_one(a:Bod.Cp):∀ u∈cellsCp a,u.oneCell'=true:=by
 intro u hu
 simp only [cellsCp,List.mem_cons,List.not_mem_nil,or_false]at hu
 rcases hu with rfl|rfl|rfl<;>rfl
theorem standR_le(ls:List Lim)(p d t:Int):(standR ls p d t).1.length≤512:=by
 unfold standR
 split
 ·simp
 split
 ·simp
 rename_i h _
 have:=(chkL_zero (by simpa using h)).1
 exact Nat.le_trans (List.length_filter_le _ _) this
theorem caps_arg{W:World}{u:Value}{cs:List Bod.Cp}(h:SX.Arg.rd W ⟨u,3,cpL cs⟩):∃ A n c,u=.slice A n c∧Rd W 3 A n (cpL cs)∧n≤c∧cs.length=n:=by
 unfold SX.Arg.rd at h
 split at h
 ·rename_i A n c hu
  have hu:u=.slice A n c:=hu
  refine⟨A,n,c,hu,h.1,h.2,?_⟩
  have:=h.1.1;simp only [cpL_len]at this;omega
 cases h
noncomputable def inForceR(b:Bod.Bd)(ls:List Lim)(p d t:Int):Bod.Bd×Int:=if b.chk≠0 then(Bod.Bd.zero,b.chk)else if(standR ls p d t).2≠0 then(Bod.Bd.zero,(standR ls p d t).2)else(b.allB (capsL (standR ls p d t).1),b.allE (capsL (standR ls p d t).1))
def RIF(f:FuncId)(xs:List SX.Arg)(v:Value):Prop :=
 (f=26∧∃ b:Bod.Bd,xs=[⟨valBd b,0,[]⟩]∧b.name.size≤maxLen∧v=.int .i64 b.chk) ∨
 (f=28∧∃ (b:Bod.Bd) (u:Value) (cs:List Bod.Cp),xs=[⟨valBd b,0,[]⟩,⟨u,3,cpL cs⟩]∧b.name.size≤maxLen∧cs.length≤9223372036854775807∧v=.tuple #[valBd (b.allB cs),.int .i64 (b.allE cs)]) ∨
 (f=27∧∃ (u:Value) (ls:List Lim) (p d t:Int),xs=[⟨u,9,lmL ls⟩,⟨.int .i64 p,0,[]⟩,⟨.int .i64 d,0,[]⟩,⟨.int .i64 t,0,[]⟩]∧ls.length≤9223372036854775807∧fitLm ls∧v=.tuple #[.agg (lmL (standR ls p d t).1).toArray,.int .i64 (standR ls p d t).2])
def shpIF:FuncId→Option SX.Sh:=fun f=>if f=26 then some .one else if f=28 then some (.tp [.ag 17,.one])else if f=27 then some (.tp [.sl 9,.one])else none
noncomputable def cxIF(K A:Value→Nat→List Value→Prop):SX.Cx:={ P:=Tryd.prog,R:=fun _=>RIF,shp:=shpIF,K:=K,A:=A,trm:=true }
theorem okIF(K A:Value→Nat→List Value→Prop):(cxIF K A).Ok:=by
 refine SX.Cx.ok_of (fun _=>rfl) ?_
 intro K f xs v W hR hrd hKf
 rcases hR with ⟨rfl,b,rfl,hs,rfl⟩|⟨rfl,b,u,cs,rfl,hs,hl,rfl⟩|⟨rfl,u,ls,p,d,t,rfl,hl,hf,rfl⟩
 ·exact(bCheck_any b W hs).mono fun e w' h=>SX.plainOk rfl h
 ·obtain⟨A,n,c,rfl,h2,h3,h4⟩:=caps_arg (hrd ⟨u,3,cpL cs⟩ (by simp))
  exact(bAll_any b cs A n c W hs h2 (by omega) h3).mono fun e w' h=>SX.plainOk rfl h
 refine Calls.mono ?_ fun e w' h=>SX.SlRet.ok0 rfl h
 obtain⟨A,n,c,rfl,h2,h3,h4⟩:=lms_arg (hrd ⟨u,9,lmL ls⟩ (by simp))
 exact lStand_any ls A n c p d t W h2 (by omega) h3 hf
theorem lms_fit(l:List Lim)(k:Int):SX.Sh.fit (.tp [.sl 9,.one]) (.tuple #[.agg (lmL l).toArray,.int .i64 k])=true:=by
 have h1:(lmL l).length % 9=0:=by rw [lmL_len];omega
 have h2:(lmL l).all (·.oneCell')=true:=by
  rw [List.all_eq_true]
  intro u hu
  obtain⟨a,_,h⟩:=List.mem_flatMap.1 hu
  exact cellsLm_one a u h
 simp only [SX.Sh.fit,SX.Sh.fitL,h1,h2]
 rfl
def tree_inForce:SX.Tree :=
(.df (.call 26 [.no]) [(.a (SX.Z 0 17))] .one
(.df (.bin .neq 44) [(.q 21),(.i 0)] .one
(.br 22 []
(.ret (.t [(.a [(.k (.string ⟨#[]⟩)),(.i 0),(.i 0),(.i 0),(.i 0),(.i 0),(.i 0),(.i 0),(.i 0),(.i 0),(.i 0),(.i 0),(.i 0),(.i 0),(.i 0),(.i 0),(.i 0)]),(.q 21)]) [] [])
(.df (.call 27 [(.ext 9),.no,.no,.no]) (SX.Z 17 4) (.tp [(.sl 9),.one])
(.df (.bin .neq 44) [(.x 23 [1]),(.i 0)] .one
(.br 24 []
(.ret (.t [(.a [(.k (.string ⟨#[]⟩)),(.i 0),(.i 0),(.i 0),(.i 0),(.i 0),(.i 0),(.i 0),(.i 0),(.i 0),(.i 0),(.i 0),(.i 0),(.i 0),(.i 0),(.i 0),(.i 0)]),(.x 23 [1])]) [] [])
(.df (.rlen 9) [(.cat [(.x 23 [0])])] .one
(.loop [(.i 0),(.cat [])] [.one,.any]
(.df (.bin .lss 3) [(.q 26),(.q 25)] .one
(.br 28 []
(.df (.rbnd 9) [(.cat [(.x 23 [0])]),(.q 26)] .one
(.df (.relems 9 0 9) [(.cat [(.x 23 [0])]),(.q 26)] (.ag 9)
(.df (.app 3 24 (.own 3 [(.x 30 [6]),(.x 30 [7]),(.x 30 [8])])) [(.cat [(.q 27)]),(.sl 7 0 1 1)] .any
(.df (.bin .add 3) [(.q 26),(.i 1)] .one
(.again 0 [(.q 32),(.cat [(.q 27),(.q 31)])])))))
(.df (.call 28 [.no,(.row 3 [(.q 27)])]) [(.a (SX.Z 0 17)),(.row 5)] (.tp [(.ag 17),.one])
(.ret (.t [(.a [(.x 29 [0,0]),(.x 29 [0,1]),(.x 29 [0,2]),(.x 29 [0,3]),(.x 29 [0,4]),(.x 29 [0,5]),(.x 29 [0,6]),(.x 29 [0,7]),(.x 29 [0,8]),(.x 29 [0,9]),(.x 29 [0,10]),(.x 29 [0,11]),(.x 29 [0,12]),(.x 29 [0,13]),(.x 29 [0,14]),(.x 29 [0,15]),(.x 29 [0,16])]),(.x 29 [1])]) [] []))))))))))))
def args_inForce:List SX.V:=[.a ((List.range 17).map fun j=>.x j []),.x 17 [],.x 18 [],.x 19 [],.x 20 []]
set_option maxRecDepth 100000 in
theorem run_inForce(K A:Value→Nat→List Value→Prop):(SX.run (cxIF K A) ⟨fun f=>true,[⟨11,9,[(.s 36,.one),(.s 13,.row 3 29)]⟩],0,100⟩ 100000 0 (SX.door 11 Tryd.f11 args_inForce (List.replicate 21 .one)) [.code (Tryd.f11.body.getD .skip),.top Tryd.f11]).strip=tree_inForce:=by kernel_rfl
set_option maxRecDepth 100000 in
set_option maxHeartbeats 4000000 in
theorem inForce_any(b:Bod.Bd)(ls:List Lim)(A:Option Addr)(n c:Nat)(p d t:Int)(w:World)(hs:b.name.size≤maxLen)(hr:Rd w 9 A n (lmL ls))(hn:n≤9223372036854775807)(hc:n≤c)(hfit:fitLm ls):Calls Tryd.prog 11 #[valBd b,.slice A n c,.int .i64 p,.int .i64 d,.int .i64 t] w fun e w'=>e=.returned (.tuple #[valBd (inForceR b ls p d t).1,.int .i64 (inForceR b ls p d t).2])∧Below w.heap.size w w':=by
 refine SX.calls_of_run (C:=cxIF (fun s sz cells=>s=.slice A n c∧sz=9∧cells=lmL ls) (fun _ _ _=>False)) (G:=⟨fun f=>true,[⟨11,9,[(.s 36,.one),(.s 13,.row 3 29)]⟩],0,100⟩) (args:=args_inForce) (sh:=(List.replicate 21 .one)) (ρ:=(cellsBd b++[.slice A n c,.int .i64 p,.int .i64 d,.int .i64 t])) 100000 tree_inForce (okIF _ _) Tryd.func11 rfl (run_inForce _ _) (by kernel_rfl) (by kernel_rfl) (by kernel_rfl) ?_ ?_
 ·rintro W hW s sz cells ⟨rfl,rfl,rfl⟩;exact⟨hr.same0 hW,hc⟩
 have hA:=SX.rd_some hr
 have hln:ls.length=n:=by have:=hr.1;rw [lmL_len]at this;omega
 have hsl:=standR_le ls p d t
 unfold tree_inForce
 refine SX.E (.int .i64 b.chk) (fun α=>⟨[⟨valBd b,0,[]⟩],⟨by kernel_rfl,by kernel_rfl,trivial⟩,.inl ⟨rfl,_,rfl,hs,rfl⟩,SX.noAli rfl⟩) ?_
 refine SX.D (.bool ((b.chk:Int) != 0)) ?_
 refine SX.B ((b.chk:Int) != 0) (fun h22=>?_) (fun h22=>?_)
 ·try simp only [NRM]at h22
  have hE:inForceR b ls p d t=(Bod.Bd.zero,b.chk):=by rw [inForceR,if_pos (by simpa using h22)]
  exact SX.F (.tuple #[valBd Bod.Bd.zero,.int .i64 b.chk]) (by rw [hE])
 try simp only [NRM]at h22
 refine SX.VC_df (.tuple #[Value.agg (lmL (standR ls p d t).1).toArray,.int .i64 ((standR ls p d t).2)]) (fun α=>⟨[⟨.slice A n c,9,lmL ls⟩,⟨.int .i64 p,0,[]⟩,⟨.int .i64 d,0,[]⟩,⟨.int .i64 t,0,[]⟩],⟨by kernel_rfl,rfl,⟨by kernel_rfl,rfl,rfl⟩,by kernel_rfl,by kernel_rfl,by kernel_rfl,by kernel_rfl,by kernel_rfl,by kernel_rfl,trivial⟩,.inr (.inr (⟨rfl,_,ls,p,d,t,rfl,by omega,hfit,rfl⟩)),SX.noAli rfl⟩) (lms_fit _ _) ?_
 refine SX.D (.bool (((standR ls p d t).2:Int) != 0)) ?_
 refine SX.B (((standR ls p d t).2:Int) != 0) (fun h24=>?_) (fun h24=>?_)
 ·try simp only [NRM]at h24
  have hE:inForceR b ls p d t=(Bod.Bd.zero,(standR ls p d t).2):=by rw [inForceR,if_neg (by simpa using h22),if_pos (by simpa using h24)]
  exact SX.F (.tuple #[valBd Bod.Bd.zero,.int .i64 ((standR ls p d t).2)]) (by rw [hE])
 try simp only [NRM]at h24
 refine SX.E (.int .i64 ((((standR ls p d t).1.length:Nat):Int))) (fun α=>rlen_of (f:=cellsLm) (l:=(standR ls p d t).1) (fun _=>rfl) (by decide) (Eq.trans (b:=[Value.agg (lmL (standR ls p d t).1).toArray].flatMap SX.cellsV) (by kernel_rfl) (by simp [SX.cellsV,lmL]))) ?_
 refine SX.VC_loop (fun xs=>∃ (i:Nat),xs=[.int .i64 (i:Int),.agg (cpL (((standR ls p d t).1.take i).map capOf)).toArray]∧i≤(standR ls p d t).1.length) (fun xs=>match xs with|(.int _ i)::_=>(standR ls p d t).1.length-i.toNat|_=>0) (fun α=>⟨0,Eq.trans (b:=[.int .i64 0,.agg #[]]) (by kernel_rfl) (by simp [cpL]),by omega⟩) ?_
 rintro xs-⟨i,rfl,hin⟩
 refine SX.D (.bool (decide (((i:Nat):Int)<(((standR ls p d t).1.length:Nat):Int)))) ?_
 refine SX.B (decide (((i:Nat):Int)<(((standR ls p d t).1.length:Nat):Int))) (fun h28=>?_) (fun h28=>?_)
 ·try simp only [NRM]at h28
  obtain⟨z,hz⟩:∃ z,(standR ls p d t).1[i]?=some z:=⟨_,List.getElem?_eq_getElem (by omega)⟩
  refine SX.E (.bool true) (fun α=>SX.row_bnd (f:=cellsLm) (l:=(standR ls p d t).1) (k:=i) (fun _=>rfl) (by decide) (Eq.trans (b:=[Value.agg (lmL (standR ls p d t).1).toArray].flatMap SX.cellsV) (by kernel_rfl) (by simp [SX.cellsV,lmL])) (by kernel_rfl) (by omega)) ?_
  refine SX.E (.agg (cellsLm z).toArray) (fun α=>SX.row_elems (f:=cellsLm) (l:=(standR ls p d t).1) (k:=i) (z:=z) (fun _=>rfl) (by decide) (Eq.trans (b:=[Value.agg (lmL (standR ls p d t).1).toArray].flatMap SX.cellsV) (by kernel_rfl) (by simp [SX.cellsV,lmL])) (by kernel_rfl) hz) ?_
  refine SX.E (Value.agg (([capOf z]).flatMap cellsCp).toArray) (fun α=>SX.app_rel (f:=cellsCp) (l1:=((standR ls p d t).1.take i).map capOf) (l2:=[capOf z]) (fun _=>rfl) cellsCp_one (by decide) (SX.cat1 (by kernel_rfl)) (SX.src_own (by kernel_rfl)) (by simp only [List.length_map,List.length_take,List.length_cons,List.length_nil];omega) (by simp only [List.length_map,List.length_take,List.length_cons,List.length_nil];omega)) ?_
  refine SX.E (.int .i64 (((i+1:Nat):Int))) (fun α=>SX.W1 i) ?_
  exact SX.VC_again fun α=>⟨⟨i+1,Eq.trans (b:=[.int .i64 ((i+1:Nat):Int),.agg ([Value.agg (cpL (((standR ls p d t).1.take i).map capOf)).toArray,Value.agg (([capOf z]).flatMap cellsCp).toArray].flatMap SX.cellsV).toArray]) (by kernel_rfl) (by rw [List.take_add_one,hz];simp [SX.cellsV,cpL]),by omega⟩,cast (by kernel_rfl) (show(standR ls p d t).1.length-((i+1:Nat):Int).toNat<(standR ls p d t).1.length-(i:Int).toNat by omega)⟩
 try simp only [NRM]at h28
 have hcs:(capsL (standR ls p d t).1)=((standR ls p d t).1.take i).map capOf:=by rw [List.take_of_length_le (by omega)];rfl
 refine SX.E (.tuple #[.agg #[.string ((b.allB (capsL (standR ls p d t).1)).name),.int .i64 ((b.allB (capsL (standR ls p d t).1)).weight),.int .i64 ((b.allB (capsL (standR ls p d t).1)).lift),.int .i64 ((b.allB (capsL (standR ls p d t).1)).girth),.int .i64 ((b.allB (capsL (standR ls p d t).1)).step),.int .i64 ((b.allB (capsL (standR ls p d t).1)).jump),.int .i64 ((b.allB (capsL (standR ls p d t).1)).r0),.int .i64 ((b.allB (capsL (standR ls p d t).1)).r1),.int .i64 ((b.allB (capsL (standR ls p d t).1)).r2),.int .i64 ((b.allB (capsL (standR ls p d t).1)).s0),.int .i64 ((b.allB (capsL (standR ls p d t).1)).s1),.int .i64 ((b.allB (capsL (standR ls p d t).1)).s2),.int .i64 ((b.allB (capsL (standR ls p d t).1)).t0),.int .i64 ((b.allB (capsL (standR ls p d t).1)).t1),.int .i64 ((b.allB (capsL (standR ls p d t).1)).t2),.int .i64 ((b.allB (capsL (standR ls p d t).1)).effort),.int .i64 ((b.allB (capsL (standR ls p d t).1)).recover)],.int .i64 ((b.allE (capsL (standR ls p d t).1)))]) (fun α=>⟨[⟨valBd b,0,[]⟩,⟨(α 5).h,3,cpL (capsL (standR ls p d t).1)⟩],⟨by kernel_rfl,by kernel_rfl,Eq.trans (b:=(⟨(α 5).h,3,[Value.agg (cpL (((standR ls p d t).1.take i).map capOf)).toArray].flatMap SX.cellsV⟩:SX.Arg)) (by rw [hcs];simp [SX.cellsV]) (by kernel_rfl),trivial⟩,.inr (.inl ⟨rfl,b,_,(capsL (standR ls p d t).1),rfl,hs,by rw [capsL,List.length_map];omega,rfl⟩),SX.noAli rfl⟩) ?_
 have hE:inForceR b ls p d t=(b.allB (capsL (standR ls p d t).1),b.allE (capsL (standR ls p d t).1)):=by rw [inForceR,if_neg (by simpa using h22),if_neg (by simpa using h24)]
 exact SX.F (.tuple #[valBd (b.allB (capsL (standR ls p d t).1)),.int .i64 (b.allE (capsL (standR ls p d t).1))]) (by rw [hE])
theorem xor_one(i:Nat):i^^^1=if i % 2=0 then i+1 else i-1:=by
 have h1:(i^^^1) / 2=i / 2:=by rw [Nat.xor_div_two];simp
 have h2:((i^^^1) % 2=1)↔¬ ((i % 2=1)↔(1 % 2=1)):=Nat.xor_mod_two_eq_one
 split<;>omega
def pairE:Option Dg→Option Dg→Option Dg
 | some x,some y=>some (dgH (ndX x y))
 | some x,none=>some x
 | none,_=>none
theorem upE_at:∀ (l:List Dg)(k:Nat),(upE l)[k]?=pairE l[2*k]? l[2*k+1]?
 | [],k=>by simp [upE,pairE]
 | [x],k=>by
  cases k with
  | zero=>simp [upE,pairE]
  | succ k=>simp [upE,pairE]
 | x::y::r,0=>by rw [upE_cons];simp [pairE]
 | x::y::r,k+1=>by
  rw [upE_cons,List.getElem?_cons_succ,upE_at r k,show 2*(k+1)=2*k+1+1 by omega]
  simp
theorem climb_prove:∀ (N:Nat)(l:List Dg)(i:Nat)(d:Dg),l.length≤N→l[i]?=some d→climbE l.length i d (proveE l i)=some (topE l)
 | 0,l,i,d,h,hd=>by
  have:=(List.getElem?_eq_some_iff.1 hd).1
  omega
 | N+1,l,i,d,h,hd=>by
  have hi:=(List.getElem?_eq_some_iff.1 hd).1
  have hx:=xor_one i
  by_cases h1:l.length≤1
  ·have h0:i=0:=by omega
   subst h0
   rw [proveE_one h1,climb_one h1,topE_one h1,show(0^^^1:Nat)=1 from rfl,List.getElem?_eq_none h1]
   match l,hd with
   | x::r,hd=>cases hd;rfl
  rw [proveE_up h1,← topE_up h1]
  have hu:=upE_len l
  by_cases h2:l.length≤(i^^^1)
  ·have he:i % 2=0:=by
    by_cases he:i % 2=0
    ·exact he
    rw [if_neg he]at hx;omega
   rw [if_pos he]at hx
   have hup:(upE l)[i / 2]?=some d:=by
    rw [upE_at,show 2*(i / 2)=i by omega,hd,List.getElem?_eq_none (show l.length≤i+1 by omega)];rfl
   rw [climb_alone h1 h2,List.getElem?_eq_none h2,← hu]
   exact climb_prove N (upE l) (i / 2) d (by omega) hup
  obtain⟨q,hq⟩:∃ q,l[i^^^1]?=some q:=⟨_,List.getElem?_eq_getElem (by omega)⟩
  rw [hq]
  by_cases he:i % 2=0
  ·rw [if_pos he]at hx
   rw [hx]at hq
   have hup:(upE l)[i / 2]?=some (dgH (ndX d q)):=by rw [upE_at,show 2*(i / 2)=i by omega,hd,hq];rfl
   show climbE _ _ _ (q::proveE (upE l) (i / 2))=_
   rw [climb_right h1 h2 he,← hu]
   exact climb_prove N (upE l) (i / 2) _ (by omega) hup
  rw [if_neg he]at hx
  rw [hx]at hq
  have hup:(upE l)[i / 2]?=some (dgH (ndX q d)):=by rw [upE_at,show 2*(i / 2)=i-1 by omega,hq,show i-1+1=i by omega,hd];rfl
  show climbE _ _ _ (q::proveE (upE l) (i / 2))=_
  rw [climb_left h1 h2 he,← hu]
  exact climb_prove N (upE l) (i / 2) _ (by omega) hup
theorem lvD_len(ls:List Lim)(ss:List Int):(lvD ls ss).length=ls.length:=by unfold lvD;simp
theorem powV_congr{a m n:Int}(h:m % 1073741789=n % 1073741789):Jac.powV a m=Jac.powV a n:=by unfold Jac.powV Jac.red;rw [h]
theorem sign_point(k x E:Int):Jac.mulV (Jac.powV 4 ((k+E*x % 1073741789) % 1073741789)) (Jac.powV (Jac.powV 4 x) (-E))=Jac.powV 4 k:=by
 rw [Jac.powV_powV Jac.vld_four,Jac.powV_add Jac.vld_four]
 refine powV_congr ?_
 rw [Int.mul_neg,Int.mul_comm x E]
 generalize E*x=e
 omega
theorem signV_no{secret:Int}{tx:ByteArray}(h:secret<1∨1073741789≤secret):signV secret tx=(0,0,110):=by unfold signV;rw [if_pos h]
theorem signV_ok{secret:Int}{tx:ByteArray}(h1:1≤secret)(h2:secret<1073741789):signV secret tx=(pointH (Jac.powV 4 (nonceV secret tx)) (Jac.powV 4 secret) tx,(nonceV secret tx+pointH (Jac.powV 4 (nonceV secret tx)) (Jac.powV 4 secret) tx*secret % 1073741789) % 1073741789,0):=by unfold signV;rw [if_neg (by omega)]
theorem signV_err{secret:Int}{tx:ByteArray}(h1:1≤secret)(h2:secret<1073741789):(signV secret tx).2.2=0:=by rw [signV_ok h1 h2]
theorem signV_bd(secret:Int)(tx:ByteArray):(0≤(signV secret tx).1∧(signV secret tx).1<1073741789)∧0≤(signV secret tx).2.1∧(signV secret tx).2.1<1073741789:=by
 by_cases h:secret<1∨1073741789≤secret
 ·rw [signV_no h];decide
 rw [signV_ok (by omega) (by omega)]
 exact⟨pointH_bd _ _ _,Int.emod_nonneg _ (by decide),Int.emod_lt_of_pos _ (by decide)⟩
theorem ver_sign{secret:Int}{tx:ByteArray}(h1:1≤secret)(h2:secret<1073741789):verV (Jac.powV 4 secret) tx (signV secret tx).1 (signV secret tx).2.1=true:=by
 obtain⟨⟨b1,b2⟩,b3,b4⟩:=signV_bd secret tx
 have hv:=Jac.vld_powV (n:=secret) Jac.vld_four
 unfold verV
 rw [if_neg (by rintro(q|q|q|q|q)<;>first|omega|(rw [hv]at q;cases q))]
 rw [decide_eq_true_eq,signV_ok h1 h2]
 show pointH _ _ tx=pointH (Jac.mulV (Jac.powV 4 ((nonceV secret tx+_*secret % 1073741789) % 1073741789)) (Jac.powV (Jac.powV 4 secret) (-_))) _ tx
 rw [sign_point]
theorem open_check{key person:Int}{ls:List Lim}{ss:List Int}{i:Nat}{x:Lim}{s:Int}(h:rightP ls ss person)(h1:1≤key)(h2:key<1073741789)(hx:ls[i]?=some x)(hs:ss[i]?=some s):checkP (Jac.powV 4 key) person (ls.length:Int) (signV key (bt (encL (signF person (ls.length:Int) (topE (lvD ls ss)))))).1 (signV key (bt (encL (signF person (ls.length:Int) (topE (lvD ls ss)))))).2.1 (topE (lvD ls ss)) ((i:Nat):Int) s x (proveE (lvD ls ss) i):=by
 have hi:=(List.getElem?_eq_some_iff.1 hx).1
 have hd:(lvD ls ss)[i]?=some (dgH (lfX (encL (leafF (i:Int) x s)))):=by
  unfold lvD
  rw [List.getElem?_map,List.getElem?_range hi]
  show some (dgH (lfX (txtE ls ss i)))=_
  unfold txtE
  rw [List.getD_eq_getElem?_getD,hx,List.getD_eq_getElem?_getD,hs]
  rfl
 have hc:=climb_prove _ (lvD ls ss) i _ (Nat.le_refl _) hd
 rw [lvD_len]at hc
 obtain⟨a1,a2,a3,⟨a4,a5⟩,a6⟩:=h
 refine⟨⟨by omega,by omega,by omega,by omega,a6 s (List.mem_of_getElem? hs),a5 x (List.mem_of_getElem? hx),topE (lvD ls ss),?_,rfl⟩,ver_sign h1 h2⟩
 rw [Int.toNat_natCast,Int.toNat_natCast]
 exact hc
theorem make_ok{key person:Int}{ls:List Lim}{ss:List Int}(h:rightP ls ss person)(h1:1≤key)(h2:key<1073741789):makeV key person ls ss=.tuple #[sealV person (ls.length:Int) (topE (lvD ls ss)) (signV key (bt (encL (signF person (ls.length:Int) (topE (lvD ls ss)))))).1 (signV key (bt (encL (signF person (ls.length:Int) (topE (lvD ls ss)))))).2.1,.int .i64 0]:=by
 unfold makeV
 rw [if_neg (by omega),if_pos h]
 show Value.tuple #[_,Value.int .i64 (signV key _).2.2]=_
 rw [signV_err h1 h2]
theorem make_no{key person:Int}{ls:List Lim}{ss:List Int}(h:¬ (rightP ls ss person∧1≤key∧key<1073741789)):∃ e:Int,e≠0∧makeV key person ls ss=.tuple #[sealV 0 0 (fun _=>0) 0 0,.int .i64 e]:=by
 unfold makeV
 by_cases h1:key<1∨1073741789≤key
 ·exact⟨110,by decide,by rw [if_pos h1]⟩
 exact⟨350,by decide,by rw [if_neg h1,if_neg (fun hr=>h ⟨hr,by omega,by omega⟩)]⟩
theorem open_at{person:Int}{ls:List Lim}{ss:List Int}{i:Nat}{x:Lim}{s:Int}(h:rightP ls ss person)(hx:ls[i]?=some x)(hs:ss[i]?=some s):openE person ls ss (i:Int)=⟨(i:Int),s,x,proveE (lvD ls ss) i,0⟩:=by
 have hi:=(List.getElem?_eq_some_iff.1 hx).1
 unfold openE
 rw [if_pos h,if_pos (by omega),Int.toNat_natCast,List.getD_eq_getElem?_getD,hs,List.getD_eq_getElem?_getD,hx]
 rfl
def fewP(n m:Nat):Bool:=(decide (n≤20) || (decide (64≤n) && decide (n≤600))) && (decide (m≤20) || (decide (64≤m) && decide (m≤600)))
def tree_lfew:SX.Tree :=(.df (.len false) [(.q 0)] .one
(.df (.bin .leq 3) [(.q 2),(.i 20)] .one
(.br 3 []
(.df (.len false) [(.q 1)] .one
(.df (.bin .leq 3) [(.q 4),(.i 20)] .one
(.br 5 []
(.ret (.k (.bool true)) [] [])
(.df (.len false) [(.q 1)] .one
(.df (.bin .geq 3) [(.q 6),(.i 64)] .one
(.br 7 []
(.df (.len false) [(.q 1)] .one
(.df (.bin .leq 3) [(.q 8),(.i 600)] .one
(.ret (.q 9) [] [])))
(.ret (.k (.bool false)) [] [])))))))
(.df (.len false) [(.q 0)] .one
(.df (.bin .geq 3) [(.q 4),(.i 64)] .one
(.br 5 []
(.df (.len false) [(.q 0)] .one
(.df (.bin .leq 3) [(.q 6),(.i 600)] .one
(.br 7 []
(.df (.len false) [(.q 1)] .one
(.df (.bin .leq 3) [(.q 8),(.i 20)] .one
(.br 9 []
(.ret (.k (.bool true)) [] [])
(.df (.len false) [(.q 1)] .one
(.df (.bin .geq 3) [(.q 10),(.i 64)] .one
(.br 11 []
(.df (.len false) [(.q 1)] .one
(.df (.bin .leq 3) [(.q 12),(.i 600)] .one
(.ret (.q 13) [] [])))
(.ret (.k (.bool false)) [] [])))))))
(.ret (.k (.bool false)) [] []))))
(.ret (.k (.bool false)) [] [])))))))
def args_lfew:List SX.V:=[.x 0 [],.x 1 []]
set_option maxRecDepth 100000 in
theorem run_lfew(K A:Value→Nat→List Value→Prop):(SX.run (cxL0 K A) ⟨fun f=>true,[],0,100⟩ 100000 0 (SX.door 7 Tryd.f7 args_lfew [.one,.one]) [.code (Tryd.f7.body.getD .skip),.top Tryd.f7]).strip=tree_lfew:=by kernel_rfl
set_option maxRecDepth 100000 in
theorem few_any(A:Option Addr)(n c:Nat)(B:Option Addr)(m d:Nat)(w:World):Calls Tryd.prog 7 #[.slice A n c,.slice B m d] w fun e w'=>e=.returned (.bool (fewP n m))∧Below w.heap.size w w':=by
 refine SX.calls_of_run (C:=cxL0 (fun _ _ _=>False) (fun _ _ _=>False)) (G:=⟨fun f=>true,[],0,100⟩) (args:=args_lfew) (sh:=[.one,.one]) (ρ:=[.slice A n c,.slice B m d]) 100000 tree_lfew (cxL0_ok _ _) Tryd.func7 rfl (run_lfew _ _) (by kernel_rfl) (by kernel_rfl) (by kernel_rfl) (fun _ _ _ _ _ h=>h.elim) ?_
 unfold tree_lfew
 refine SX.D (.int .i64 (n:Int)) ?_
 refine SX.D (.bool (decide ((n:Int)≤20))) ?_
 refine SX.B (decide ((n:Int)≤20)) (fun f1=>?_) (fun f1=>?_)
 ·refine SX.D (.int .i64 (m:Int)) ?_
  refine SX.D (.bool (decide ((m:Int)≤20))) ?_
  refine SX.B (decide ((m:Int)≤20)) (fun g1=>?_) (fun g1=>?_)
  ·have e:fewP n m=true:=by simp only [decide_eq_true_eq,decide_eq_false_iff_not]at *;unfold fewP;simp;omega
   rw [e]
   exact SX.F (.bool true) rfl
  refine SX.D (.int .i64 (m:Int)) ?_
  refine SX.D (.bool (decide ((m:Int)≥64))) ?_
  refine SX.B (decide ((m:Int)≥64)) (fun g2=>?_) (fun g2=>?_)
  ·refine SX.D (.int .i64 (m:Int)) ?_
   refine SX.D (.bool (decide ((m:Int)≤600))) ?_
   have e:fewP n m=decide ((m:Int)≤600):=by simp only [decide_eq_true_eq,decide_eq_false_iff_not]at *;unfold fewP;rw [Bool.eq_iff_iff];simp;omega
   rw [e]
   exact SX.F (.bool (decide ((m:Int)≤600))) rfl
  have e:fewP n m=false:=by simp only [decide_eq_true_eq,decide_eq_false_iff_not]at *;unfold fewP;simp;omega
  rw [e]
  exact SX.F (.bool false) rfl
 refine SX.D (.int .i64 (n:Int)) ?_
 refine SX.D (.bool (decide ((n:Int)≥64))) ?_
 refine SX.B (decide ((n:Int)≥64)) (fun f2=>?_) (fun f2=>?_)
 ·refine SX.D (.int .i64 (n:Int)) ?_
  refine SX.D (.bool (decide ((n:Int)≤600))) ?_
  refine SX.B (decide ((n:Int)≤600)) (fun f3=>?_) (fun f3=>?_)
  ·refine SX.D (.int .i64 (m:Int)) ?_
   refine SX.D (.bool (decide ((m:Int)≤20))) ?_
   refine SX.B (decide ((m:Int)≤20)) (fun g1=>?_) (fun g1=>?_)
   ·have e:fewP n m=true:=by simp only [decide_eq_true_eq,decide_eq_false_iff_not]at *;unfold fewP;simp;omega
    rw [e]
    exact SX.F (.bool true) rfl
   refine SX.D (.int .i64 (m:Int)) ?_
   refine SX.D (.bool (decide ((m:Int)≥64))) ?_
   refine SX.B (decide ((m:Int)≥64)) (fun g2=>?_) (fun g2=>?_)
   ·refine SX.D (.int .i64 (m:Int)) ?_
    refine SX.D (.bool (decide ((m:Int)≤600))) ?_
    have e:fewP n m=decide ((m:Int)≤600):=by simp only [decide_eq_true_eq,decide_eq_false_iff_not]at *;unfold fewP;rw [Bool.eq_iff_iff];simp;omega
    rw [e]
    exact SX.F (.bool (decide ((m:Int)≤600))) rfl
   have e:fewP n m=false:=by simp only [decide_eq_true_eq,decide_eq_false_iff_not]at *;unfold fewP;simp;omega
   rw [e]
   exact SX.F (.bool false) rfl
  have e:fewP n m=false:=by simp only [decide_eq_true_eq,decide_eq_false_iff_not]at *;unfold fewP;simp;omega
  rw [e]
  exact SX.F (.bool false) rfl
 have e:fewP n m=false:=by simp only [decide_eq_true_eq,decide_eq_false_iff_not]at *;unfold fewP;simp;omega
 rw [e]
 exact SX.F (.bool false) rfl
noncomputable instance:DecidableEq Bod.Bd:=fun a b=>Classical.propDecidable (a=b)
theorem cellsBd_inj(a b:Bod.Bd)(h:cellsBd a=cellsBd b):a=b:=by
 cases a;cases b
 simpa [cellsBd]using h
def RGf(K:Value→Nat→List Value→Prop)(f:FuncId)(xs:List SX.Arg)(v:Value):Prop :=
 (f=5∧LaidK K∧xs=[]∧v=.bool true) ∨
 (f=7∧∃ (u1 u2:Value) (ls:List Lim) (ss:List Int),xs=[⟨u1,9,lmL ls⟩,⟨u2,1,inL ss⟩]∧v=.bool (fewP ls.length ss.length)) ∨
 (f=9∧∃ a n:Int,xs=[⟨.int .i64 a,0,[]⟩,⟨.int .i64 n,0,[]⟩]∧v=.tuple #[.int .i64 (Jac.powV a n),.int .i64 (Jac.mulE a a)]) ∨
 (f=12∧∃ (u:Value) (ls:List Lim),xs=[⟨u,9,lmL ls⟩]∧ls.length≤9223372036854775807∧fitLm ls∧v=.int .i64 (chkL ls)) ∨
 (f=11∧∃ (u:Value) (ls:List Lim) (b:Bod.Bd) (p d t:Int),xs=[⟨valBd b,0,[]⟩,⟨u,9,lmL ls⟩,⟨.int .i64 p,0,[]⟩,⟨.int .i64 d,0,[]⟩,⟨.int .i64 t,0,[]⟩]∧b.name.size≤maxLen∧ls.length≤9223372036854775807∧fitLm ls∧v=.tuple #[valBd (inForceR b ls p d t).1,.int .i64 (inForceR b ls p d t).2]) ∨
 RSn K f xs v
def shpGf:FuncId→Option SX.Sh:=fun f=>if f∈[5,7,6,12,15]then some .one else if f=8 then some (.tp [.ag 36,.one])else if f=9 then some (.tp [.one,.one])else if f=11 then some (.tp [.ag 17,.one])else none
noncomputable def cxGf(nb:Nat)(K A:Value→Nat→List Value→Prop):SX.Cx:={ nsh:=fun f=>if f=10 then some (.tp [.ag 12,.one])else none,Rn:=RnSn,nb:=nb,P:=Tryd.prog,R:=RGf,shp:=shpGf,K:=K,A:=A,trm:=true }
theorem okGf(nb:Nat)(K A:Value→Nat→List Value→Prop):(cxGf nb K A).Ok:=by
 refine SX.Cx.ok_nd (fun _=>rfl) ?_ fun f sh hs K xs Q W h hrd hK=>?_
 case refine_2 =>
  have hf:=h.1
  subst hf
  have hs:some (SX.Sh.tp [.ag 12,.one])=some sh:=hs
  cases hs
  exact rnSn_ok h hrd hK
 intro K f xs v W hR hrd hKf
 rcases hR with ⟨rfl,hL,rfl,rfl⟩|⟨rfl,u1,u2,ls,ss,rfl,rfl⟩|⟨rfl,a,n,rfl,rfl⟩|⟨rfl,u,ls,rfl,hl,hf,rfl⟩|⟨rfl,u,ls,b,p,d,t,rfl,hb,hl,hf,rfl⟩|hR
 ·exact(sane_any W (laid_of hL hKf)).mono fun e w' h=>SX.plainOk rfl h
 ·obtain⟨A,n,c,rfl,h1,h2,h3⟩:=lms_arg (hrd ⟨u1,9,lmL ls⟩ (by simp))
  obtain⟨B,m,d,rfl,h4,h5⟩:=arg_sl (hrd ⟨u2,1,inL ss⟩ (by simp))
  have hm:ss.length=m:=by have:=h4.1;rw [inL_len]at this;omega
  subst h3 hm
  exact(few_any A _ c B _ d W).mono fun e w' h=>SX.plainOk rfl h
 ·exact(pow_any a n W).mono fun e w' h=>SX.plainOk rfl h
 ·obtain⟨A,n,c,rfl,h2,h3,h4⟩:=lms_arg (hrd ⟨u,9,lmL ls⟩ (by simp))
  exact(lCheck_any ls A n c W h2 (by omega) h3 hf).mono fun e w' h=>SX.plainOk rfl h
 ·obtain⟨A,n,c,rfl,h2,h3,h4⟩:=lms_arg (hrd ⟨u,9,lmL ls⟩ (by simp))
  exact(inForce_any b ls A n c p d t W hb h2 (by omega) h3 hf).mono fun e w' h=>SX.plainOk rfl h
 have h:=rsn_calls hR hrd hKf
 rcases hR with ⟨rfl,_⟩|⟨rfl,_⟩|⟨rfl,_⟩<;>exact h.mono fun e w' h=>SX.plainOk rfl h
def tree_lforce:SX.Tree :=(.df (.call 5 []) [] .one
(.df .not [(.q 7)] .one
(.br 8 []
(.ret (.k (.bool false)) [none] [])
(.df (.call 7 [(.ext 9),(.ext 1)]) [(.q 2),(.q 3)] .one
(.df .not [(.q 9)] .one
(.br 10 []
(.ret (.k (.bool true)) [none] [])
(.df (.call 8 [.no,.no,(.ext 9),(.ext 1)]) (SX.Z 0 4) (.tp [(.ag 36),.one])
(.df (.bin .neq 44) [(.x 11 [1]),(.i 0)] .one
(.br 12 []
(.ret (.k (.bool true)) [none,none] [])
(.df (.call 9 [.no,.no]) [(.i 4),(.q 0)] (.tp [.one,.one])
(.loop [(.i 0),(.cat [])] [.one,.any]
(.df (.bin .lss 3) [(.q 14),(.x 11 [0,1])] .one
(.br 16 []
(.df (.callq 10 [.no,(.ext 9),(.ext 1),.no]) (SX.Z 1 3++[(.q 14)]) (.tp [(.ag 12),.one])
(.df (.bin .neq 44) [(.x 13 [1]),(.i 0)] .one
(.br 18 []
(.ret (.k (.bool false)) (List.replicate 6 none) [])
(.df (.bin .neq 44) [(.x 17 [1]),(.i 0)] .one
(.br 19 []
(.ret (.k (.bool false)) (List.replicate 6 none) [])
(.df (.call 6 [.no,.no,.no]) [(.x 13 [0]),(.a [(.x 11 [0,0]),(.x 11 [0,1]),(.x 11 [0,2]),(.x 11 [0,3]),(.x 11 [0,4]),(.x 11 [0,5]),(.x 11 [0,6]),(.x 11 [0,7]),(.x 11 [0,8]),(.x 11 [0,9]),(.x 11 [0,10]),(.x 11 [0,11]),(.x 11 [0,12]),(.x 11 [0,13]),(.x 11 [0,14]),(.x 11 [0,15]),(.x 11 [0,16]),(.x 11 [0,17]),(.x 11 [0,18]),(.x 11 [0,19]),(.x 11 [0,20]),(.x 11 [0,21]),(.x 11 [0,22]),(.x 11 [0,23]),(.x 11 [0,24]),(.x 11 [0,25]),(.x 11 [0,26]),(.x 11 [0,27]),(.x 11 [0,28]),(.x 11 [0,29]),(.x 11 [0,30]),(.x 11 [0,31]),(.x 11 [0,32]),(.x 11 [0,33]),(.x 11 [0,34]),(.x 11 [0,35])]),(.a [(.x 17 [0,0]),(.x 17 [0,1]),(.x 17 [0,2]),(.x 17 [0,3]),(.x 17 [0,4]),(.x 17 [0,5]),(.x 17 [0,6]),(.x 17 [0,7]),(.x 17 [0,8]),(.x 17 [0,9]),(.x 17 [0,10]),(.x 17 [0,11])])] .one
(.df .not [(.q 20)] .one
(.br 21 []
(.ret (.k (.bool false)) (List.replicate 6 none) [])
(.df (.app 9 72 (.own 9 [(.x 17 [0,2]),(.x 17 [0,3]),(.x 17 [0,4]),(.x 17 [0,5]),(.x 17 [0,6]),(.x 17 [0,7]),(.x 17 [0,8]),(.x 17 [0,9]),(.x 17 [0,10])])) [(.cat [(.q 15)]),(.sl 6 0 1 1)] .any
(.df (.bin .add 3) [(.q 14),(.i 1)] .one
(.again 0 [(.q 23),(.cat [(.q 15),(.q 22)])])))))))))))
(.df (.call 11 [.no,(.ext 9),.no,.no,.no]) [(.a (SX.Y 4 0 17)),(.q 2),(.q 1),(.q 5),(.q 6)] (.tp [(.ag 17),.one])
(.df (.call 11 [.no,(.row 9 [(.q 15)]),.no,.no,.no]) [(.a (SX.Y 4 0 17)),(.row 4),(.q 1),(.q 5),(.q 6)] (.tp [(.ag 17),.one])
(.df (.rlen 9) [(.cat [(.q 15)])] .one
(.df (.len false) [(.q 2)] .one
(.df (.bin .eql 3) [(.q 19),(.q 20)] .one
(.br 21 []
(.df (.call 12 [(.row 9 [(.q 15)])]) [(.row 4)] .one
(.df (.bin .eql 44) [(.q 22),(.i 0)] .one
(.br 23 []
(.df (.eqr false 17 [.s,(.i .i64),(.i .i64),(.i .i64),(.i .i64),(.i .i64),(.i .i64),(.i .i64),(.i .i64),(.i .i64),(.i .i64),(.i .i64),(.i .i64),(.i .i64),(.i .i64),(.i .i64),(.i .i64)]) [(.x 17 [0,0]),(.x 17 [0,1]),(.x 17 [0,2]),(.x 17 [0,3]),(.x 17 [0,4]),(.x 17 [0,5]),(.x 17 [0,6]),(.x 17 [0,7]),(.x 17 [0,8]),(.x 17 [0,9]),(.x 17 [0,10]),(.x 17 [0,11]),(.x 17 [0,12]),(.x 17 [0,13]),(.x 17 [0,14]),(.x 17 [0,15]),(.x 17 [0,16]),(.x 18 [0,0]),(.x 18 [0,1]),(.x 18 [0,2]),(.x 18 [0,3]),(.x 18 [0,4]),(.x 18 [0,5]),(.x 18 [0,6]),(.x 18 [0,7]),(.x 18 [0,8]),(.x 18 [0,9]),(.x 18 [0,10]),(.x 18 [0,11]),(.x 18 [0,12]),(.x 18 [0,13]),(.x 18 [0,14]),(.x 18 [0,15]),(.x 18 [0,16])] .one
(.br 24 []
(.df (.bin .eql 44) [(.x 17 [1]),(.x 18 [1])] .one
(.ret (.q 25) (List.replicate 7 none) []))
(.ret (.k (.bool false)) (List.replicate 7 none) [])))
(.ret (.k (.bool false)) (List.replicate 7 none) []))))
(.ret (.k (.bool false)) (List.replicate 7 none) []))))))))))))))))))))
def args_lforce:List SX.V:=[.x 0 [],.x 1 [],.x 2 [],.x 3 [],.a ((List.range 17).map fun j=>.x 4 [j]),.x 5 [],.x 6 []]
def cfgForce:SX.Cfg:=⟨fun f=>f != 10,[⟨4,11,[(.s 50,.one),(.s 19,.row 9 31)]⟩],12,100⟩
set_option maxRecDepth 100000 in
theorem run_lforce(nb:Nat)(K A:Value→Nat→List Value→Prop):(SX.run (cxGf nb K A) cfgForce 100000 0 (SX.door 4 Tryd.f4 args_lforce [.one,.one,.one,.one,.ag 17,.one,.one]) [.code (Tryd.f4.body.getD .skip),.top Tryd.f4]).strip=tree_lforce:=by kernel_rfl
theorem take_lms{ls:List Lim}{i:Nat}{x:Lim}(hx:ls[i]?=some x):ls.take (i+1)=ls.take i++[x]:=by rw [List.take_add_one,hx];simp
set_option maxRecDepth 100000 in
set_option maxHeartbeats 4000000 in
theorem force_any(key person:Int)(ls:List Lim)(A:Option Addr)(n c:Nat)(ss:List Int)(B:Option Addr)(m d:Nat)(b:Bod.Bd)(day time:Int)(w:World)(hr:Rd w 9 A n (lmL ls))(hc:n≤c)(hr2:Rd w 1 B m (inL ss))(hd:m≤d)(hf:fitLm ls)(hp:i64ok person)(hb:b.name.size≤maxLen)(hlaid:Laid w):Calls Tryd.prog 4 #[.int .i64 key,.int .i64 person,.slice A n c,.slice B m d,valBd b,.int .i64 day,.int .i64 time] w fun e w'=>e=.returned (.bool true)∧Below w.heap.size w w':=by
 refine SX.calls_of_run (C:=cxGf w.heap.size (KW w) (fun _ _ _=>False)) (G:=cfgForce) (args:=args_lforce) (sh:=[.one,.one,.one,.one,.ag 17,.one,.one]) (ρ:=[.int .i64 key,.int .i64 person,.slice A n c,.slice B m d,valBd b,.int .i64 day,.int .i64 time]) 100000 tree_lforce (okGf _ _ _) Tryd.func4 rfl (run_lforce _ _ _) (by kernel_rfl) (by kernel_rfl) (by kernel_rfl) ?_ ?_ ⟨rfl,Nat.le_refl _⟩
 ·exact fun W hW v z xs h=>h W hW
 have hL:LaidK (cxGf w.heap.size (KW w) (fun _ _ _=>False)).K:=KW_laid hlaid
 have hln:ls.length=n:=by have:=hr.1;rw [lmL_len]at this;omega
 have hlm:ss.length=m:=by have:=hr2.1;rw [inL_len]at this;omega
 have hK1:KW w (.slice A n c) 9 (lmL ls):=fun W hW=>⟨hr.same0 hW,hc⟩
 have hK2:KW w (.slice B m d) 1 (inL ss):=fun W hW=>⟨hr2.same0 hW,hd⟩
 have hm4:Jac.mulE 4 4=0:=by rw [Jac.mulE_self,if_pos Jac.vld_four]
 unfold tree_lforce
 refine SX.E (.bool true) (fun α=>⟨[],trivial,.inl ⟨rfl,hL,rfl,rfl⟩,SX.noAli rfl⟩) ?_
 refine SX.D (.bool false) ?_
 refine SX.B false (fun h=>absurd h (by decide)) (fun _=>?_)
 refine SX.E (.bool (fewP ls.length ss.length)) (fun α=>⟨[⟨.slice A n c,9,lmL ls⟩,⟨.slice B m d,1,inL ss⟩],⟨by kernel_rfl,rfl,cast (by kernel_rfl) hK1,by kernel_rfl,rfl,cast (by kernel_rfl) hK2,trivial⟩,.inr (.inl ⟨rfl,_,_,ls,ss,rfl,rfl⟩),SX.noAli rfl⟩) ?_
 refine SX.D (.bool (!fewP ls.length ss.length)) ?_
 refine SX.B (!fewP ls.length ss.length) (fun _=>?_) (fun hfw=>?_)
 ·exact SX.F (.bool true) rfl
 have hfw:ls.length≤600∧ss.length≤600:=by simp [fewP]at hfw;omega
 by_cases hall:rightP ls ss person∧1≤key∧key<1073741789
 case neg =>
  obtain⟨e,he,hme⟩:=make_no hall
  refine SX.E (.tuple #[sealV 0 0 (fun _=>0) 0 0,.int .i64 e]) (fun α=>⟨[⟨.int .i64 key,0,[]⟩,⟨.int .i64 person,0,[]⟩,⟨.slice A n c,9,lmL ls⟩,⟨.slice B m d,1,inL ss⟩],⟨by kernel_rfl,by kernel_rfl,by kernel_rfl,by kernel_rfl,by kernel_rfl,rfl,cast (by kernel_rfl) hK1,by kernel_rfl,rfl,cast (by kernel_rfl) hK2,trivial⟩,.inr (.inr (.inr (.inr (.inr (.inl ⟨rfl,hL,key,person,_,_,ls,ss,rfl,by omega,by omega,hf,hp,hme.symm⟩))))),SX.noAli rfl⟩) ?_
  refine SX.D (.bool (e != 0)) ?_
  refine SX.B (e != 0) (fun _=>?_) (fun h=>absurd h (by simpa using he))
  exact SX.F (.bool true) rfl
 obtain⟨hR,k1,k2⟩:=hall
 have hchk:=fun(i:Nat) (x:Lim) (s:Int) (hx:ls[i]?=some x) (hs:ss[i]?=some s)=>open_check hR k1 k2 hx hs
 have hmk:=make_ok hR k1 k2
 have hle:=right_fits hf hR
 have hc0:chkL ls=0:=hR.2.2.2.1.1
 have hsm:ss.length=ls.length:=hR.2.2.1
 have h64:=hR.2.1
 rw [hln]at hmk hchk
 generalize (signV key (bt (encL (signF person (n:Int) (topE (lvD ls ss)))))).1=E at *
 generalize (signV key (bt (encL (signF person (n:Int) (topE (lvD ls ss)))))).2.1=S at *
 generalize topE (lvD ls ss)=root at *
 have hsf:=signF_fits (root:=root) (count:=(n:Int)) hp (by omega)
 refine SX.E (.tuple #[sealV person (n:Int) root E S,.int .i64 0]) (fun α=>⟨[⟨.int .i64 key,0,[]⟩,⟨.int .i64 person,0,[]⟩,⟨.slice A n c,9,lmL ls⟩,⟨.slice B m d,1,inL ss⟩],⟨by kernel_rfl,by kernel_rfl,by kernel_rfl,by kernel_rfl,by kernel_rfl,rfl,cast (by kernel_rfl) hK1,by kernel_rfl,rfl,cast (by kernel_rfl) hK2,trivial⟩,.inr (.inr (.inr (.inr (.inr (.inl ⟨rfl,hL,key,person,_,_,ls,ss,rfl,by omega,by omega,hf,hp,hmk.symm⟩))))),SX.noAli rfl⟩) ?_
 refine SX.D (.bool false) ?_
 refine SX.B false (fun h=>absurd h (by decide)) (fun _=>?_)
 refine SX.E (.tuple #[.int .i64 (Jac.powV 4 key),.int .i64 0]) (fun α=>⟨[⟨.int .i64 4,0,[]⟩,⟨.int .i64 key,0,[]⟩],⟨by kernel_rfl,by kernel_rfl,by kernel_rfl,by kernel_rfl,trivial⟩,.inr (.inr (.inl ⟨rfl,4,key,rfl,by rw [hm4]⟩)),SX.noAli rfl⟩) ?_
 generalize Jac.powV 4 key=G at *
 refine SX.VC_loopN (fun xs N=>∃ i:Nat,xs=[.int .i64 (i:Int),.agg (lmL (ls.take i)).toArray]∧i≤n) (fun xs=>match xs with|.int _ i::_=>n-i.toNat|_=>0) (fun _=>rfl) (fun α=>⟨[],(fun y hy=>nomatch hy),0,by kernel_rfl,by omega⟩) ?_
 rintro xs N-⟨i,rfl,hin⟩
 have hLN:LaidK ((cxGf w.heap.size (KW w) (fun _ _ _=>False)).plus N).K:=L_pl hL
 have hN1:((cxGf w.heap.size (KW w) (fun _ _ _=>False)).plus N).K (.slice A n c) 9 (lmL ls):=SX.K_pl (C:=cxGf w.heap.size (KW w) (fun _ _ _=>False)) hK1
 have hN2:((cxGf w.heap.size (KW w) (fun _ _ _=>False)).plus N).K (.slice B m d) 1 (inL ss):=SX.K_pl (C:=cxGf w.heap.size (KW w) (fun _ _ _=>False)) hK2
 refine SX.E (.bool (decide (i<n))) (fun α=>cast (by kernel_rfl) (lss_nat i n)) ?_
 refine SX.B (decide (i<n)) (fun h1=>?_) (fun h1=>?_)
 ·have h1:i<n:=by simpa using h1
  obtain⟨x,hx⟩:∃ x,ls[i]?=some x:=⟨_,List.getElem?_eq_getElem (by omega)⟩
  obtain⟨s,hs⟩:∃ s,ss[i]?=some s:=⟨_,List.getElem?_eq_getElem (by omega)⟩
  have hop:=open_at hR hx hs
  have hck:=hchk i x s hx hs
  have hlf:=hle i (by omega)
  rw [List.getD_eq_getElem?_getD,hx,List.getD_eq_getElem?_getD,hs]at hlf
  simp only [Option.getD_some]at hlf
  generalize hP:proveE (lvD ls ss) i=p at *
  refine SX.VC_dn (fun v N=>∃ A2 c2,v=.tuple #[leafV (i:Int) s x (.slice A2 p.length c2),.int .i64 0]∧N=[⟨.slice A2 p.length c2,32,dgs p⟩]) (fun _=>rfl) (fun α=>⟨[⟨.int .i64 person,0,[]⟩,⟨.slice A n c,9,lmL ls⟩,⟨.slice B m d,1,inL ss⟩,⟨.int .i64 (i:Int),0,[]⟩],⟨by kernel_rfl,by kernel_rfl,by kernel_rfl,rfl,cast (by kernel_rfl) hN1,by kernel_rfl,rfl,cast (by kernel_rfl) hN2,by kernel_rfl,by kernel_rfl,trivial⟩,rfl,hLN,person,(i:Int),_,_,ls,ss,rfl,by omega,by omega,hf,fun A2 c2=>⟨A2,c2,by rw [hop],by rw [hop]⟩⟩) ?_
  rintro _ _-⟨A2,c2,rfl,rfl⟩
  have hL3:LaidK (((cxGf w.heap.size (KW w) (fun _ _ _=>False)).plus N).plus ([⟨.slice A2 p.length c2,32,dgs p⟩]++((cxGf w.heap.size (KW w) (fun _ _ _=>False)).plus N).N)).K:=L_pl hLN
  have hM:(⟨.slice A2 p.length c2,32,dgs p⟩:SX.Arg)∈([⟨.slice A2 p.length c2,32,dgs p⟩]++((cxGf w.heap.size (KW w) (fun _ _ _=>False)).plus N).N):=List.mem_append_left _ (List.mem_cons_self ..)
  have hK3:(((cxGf w.heap.size (KW w) (fun _ _ _=>False)).plus N).plus ([⟨.slice A2 p.length c2,32,dgs p⟩]++((cxGf w.heap.size (KW w) (fun _ _ _=>False)).plus N).N)).K (.slice A2 p.length c2) 32 (dgs p):=SX.K_mem hM
  refine SX.D (.bool false) ?_
  refine SX.B false (fun h=>absurd h (by decide)) (fun _=>?_)
  refine SX.D (.bool false) ?_
  refine SX.B false (fun h=>absurd h (by decide)) (fun _=>?_)
  refine SX.E (.bool true) (fun α=>⟨[⟨.int .i64 G,0,[]⟩,⟨sealV person (n:Int) root E S,0,[]⟩,⟨leafV (i:Int) s x (.slice A2 p.length c2),0,[]⟩],⟨by kernel_rfl,by kernel_rfl,by kernel_rfl,by kernel_rfl,by kernel_rfl,by kernel_rfl,trivial⟩,.inr (.inr (.inr (.inr (.inr (.inr (.inr ⟨rfl,hL3,G,person,(n:Int),E,S,root,(i:Int),s,x,p,_,rfl,hK3,hlf,hsf,by rw [decide_eq_true hck]⟩)))))),SX.noAli rfl⟩) ?_
  refine SX.D (.bool false) ?_
  refine SX.B false (fun h=>absurd h (by decide)) (fun _=>?_)
  refine SX.E (.agg ([x].flatMap cellsLm).toArray) (fun α=>SX.app_rel (f:=cellsLm) (l1:=ls.take i) (l2:=[x]) (fun _=>rfl) cellsLm_one (by decide) (SX.cat1 (j:=15) (by kernel_rfl)) (SX.src_own (by kernel_rfl)) (by simp;omega) (by simp;omega)) ?_
  refine SX.E (.int .i64 ((i+1:Nat):Int)) (fun α=>cast (by kernel_rfl) (i_add' (a:=i) (b:=1) (d:=i+1) rfl (by omega))) ?_
  exact SX.VC_again fun α=>⟨rfl,[],(fun y hy=>nomatch hy),⟨i+1,Eq.trans (b:=[.int .i64 ((i+1:Nat):Int),.agg ([Value.agg (lmL (ls.take i)).toArray,.agg ([x].flatMap cellsLm).toArray].flatMap SX.cellsV).toArray]) (by kernel_rfl) (by rw [take_lms hx];simp [SX.cellsV,lmL]),by omega⟩,cast (by kernel_rfl) (show n-((i+1:Nat):Int).toNat<n-(i:Int).toNat by omega)⟩
 have h1:¬ i<n:=by simpa using h1
 have hti:ls.take i=ls:=List.take_of_length_le (by omega)
 rw [hti]
 generalize hF:inForceR b ls person day time=F at *
 refine SX.E (.tuple #[valBd F.1,.int .i64 F.2]) (fun α=>⟨[⟨valBd b,0,[]⟩,⟨.slice A n c,9,lmL ls⟩,⟨.int .i64 person,0,[]⟩,⟨.int .i64 day,0,[]⟩,⟨.int .i64 time,0,[]⟩],⟨by kernel_rfl,by kernel_rfl,by kernel_rfl,rfl,cast (by kernel_rfl) hN1,by kernel_rfl,by kernel_rfl,by kernel_rfl,by kernel_rfl,by kernel_rfl,by kernel_rfl,trivial⟩,.inr (.inr (.inr (.inr (.inl ⟨rfl,_,ls,b,person,day,time,rfl,hb,by omega,hf,by rw [hF]⟩)))),SX.noAli rfl⟩) ?_
 refine SX.E (.tuple #[valBd F.1,.int .i64 F.2]) (fun α=>⟨[⟨valBd b,0,[]⟩,⟨(α 4).h,9,lmL ls⟩,⟨.int .i64 person,0,[]⟩,⟨.int .i64 day,0,[]⟩,⟨.int .i64 time,0,[]⟩],⟨by kernel_rfl,by kernel_rfl,Eq.trans (SX.argNil (α 4).h 9 (lmL ls)) (by kernel_rfl),by kernel_rfl,by kernel_rfl,by kernel_rfl,by kernel_rfl,by kernel_rfl,by kernel_rfl,trivial⟩,.inr (.inr (.inr (.inr (.inl ⟨rfl,_,ls,b,person,day,time,rfl,hb,by omega,hf,by rw [hF]⟩)))),SX.noAli rfl⟩) ?_
 refine SX.E (.int .i64 ((ls.length:Nat):Int)) (fun α=>rlen_of (f:=cellsLm) (l:=ls) (fun _=>rfl) (by decide) (SX.cat1 (j:=15) (by kernel_rfl))) ?_
 refine SX.D (.int .i64 (n:Int)) ?_
 refine SX.D (.bool (((ls.length:Nat):Int) == (n:Int))) ?_
 refine SX.B (((ls.length:Nat):Int) == (n:Int)) (fun _=>?_) (fun h=>absurd h (by rw [hln];simp))
 refine SX.E (.int .i64 0) (fun α=>⟨[⟨(α 4).h,9,lmL ls⟩],⟨Eq.trans (SX.argNil (α 4).h 9 (lmL ls)) (by kernel_rfl),trivial⟩,.inr (.inr (.inr (.inl ⟨rfl,_,ls,rfl,by omega,hf,by rw [hc0]⟩))),SX.noAli rfl⟩) ?_
 refine SX.D (.bool true) ?_
 refine SX.B true (fun _=>?_) (fun h=>absurd h (by decide))
 refine SX.E (.bool (false ^^ decide (F.1=F.1))) (fun α=>SX.eqr_rel (f:=cellsBd) cellsBd_inj (y:=F.1) (z:=F.1) (by kernel_rfl) (by kernel_rfl) (by kernel_rfl)) ?_
 refine SX.B (false ^^ decide (F.1=F.1)) (fun _=>?_) (fun h=>absurd h (by simp))
 refine SX.D (.bool ((F.2:Int) == F.2)) ?_
 exact SX.F (.bool ((F.2:Int) == F.2)) (by simp)
end Go.Proofs.YtidekfgkpindbaaDoor
namespace Go.Proofs.YtidekfgkpindbaaDoor.sealsForce
open Go Go.ChangeShapes Go.WideShapes Go.ChangeAt Go.RowKit
set_option maxRecDepth 100000 in
theorem lifted(os:Os)(started:os.Started)(H:Type)(enc:TypeId×Value→H) :
 ReturnsInHanded {} Tryd.checked os 4 .any (fun w args=>(Rows.sealsForceSpec.pre enc Tryd.prog Tryd.f4 [] false w args∧laidMetH Tryd.prog laidL w)∧sizedMet enc Tryd.prog Tryd.f4 (OpenSpec.ofChange Rows.sealsForceSpec) false w args)
  (Rows.sealsForceSpec.post enc Tryd.prog Tryd.f4 false true false false):=by
 refine returnsInHanded_of_change_and (C:=Tryd.checked) (X:=fun w _=>laidMetH Tryd.prog laidL w) (fun _ _ _ hh h=>h.of_heap hh) ownK started (by kernel_rfl) Tryd.func4
  (ChangeSpec.witness_shaped (enc:=enc) (C:=Tryd.checked) (os:=os) (X:=fun w _=>laidMetH Tryd.prog laidL w) false (World.doorLaid Tryd.prog 400 os) #[.int .i64 0,.int .i64 0,.slice none 0 0,.slice none 0 0,valBd Bod.Bd.zero,.int .i64 0,.int .i64 0] 8 rfl (World.shaped_of_RefB (by kernel_rfl) (by kernel_rfl)) (by kernel_rfl) (by kernel_rfl) (by kernel_rfl) (door_met os _)) ?_
 intro W base args ds gs before hval0 hW _ _ hL _
 have hval:∀ (j:Nat) t v,Tryd.f4.params[j]?=some t→args[j]?=some v→Value.okWide Tryd.prog W .any base t v:=hval0
 have hW':=hW
 obtain⟨p,q,hA0,hV,rfl,hfz,hnd⟩:=hW
 have hA:DataW.TrodAll enc Tryd.prog W 0 (fun _=>true) true Tryd.f4.params.toList args.toList ds p:=hA0
 rw [Tryd.params4]at hA hval
 obtain⟨v0,vs0,d0,ds0,p0,q0,hargs,rfl,rfl,h0,r0⟩:=trodAll_cons hA
 obtain⟨v1,vs1,d1,ds1,p1,q1,rfl,rfl,rfl,h1,r1⟩:=trodAll_cons r0
 obtain⟨v2,vs2,d2,ds2,p2,q2,rfl,rfl,rfl,h2,r2⟩:=trodAll_cons r1
 obtain⟨v3,vs3,d3,ds3,p3,q3,rfl,rfl,rfl,h3,r3⟩:=trodAll_cons r2
 obtain⟨v4,vs4,d4,ds4,p4,q4,rfl,rfl,rfl,h4,r4⟩:=trodAll_cons r3
 obtain⟨v5,vs5,d5,ds5,p5,q5,rfl,rfl,rfl,h5,r5⟩:=trodAll_cons r4
 obtain⟨v6,vs6,d6,ds6,p6,q6,rfl,rfl,rfl,h6,r6⟩:=trodAll_cons r5
 obtain⟨rfl,rfl,rfl⟩:=trodAll_nil r6
 obtain rfl:args=#[v0,v1,v2,v3,v4,v5,v6]:=by cases args;simp_all
 obtain⟨rfl,rfl⟩:=trodVars_none hV
 obtain⟨a0,rfl,rfl,rfl,w0⟩:=open_int Tryd.underlying3 (hval 0 3 v0 rfl rfl) h0
 obtain⟨a1,rfl,rfl,rfl,w1⟩:=open_int Tryd.underlying3 (hval 1 3 v1 rfl rfl) h1
 obtain⟨A2,n2,c2,l2,rfl,hr2,hc2,hm2,hq2⟩:=open_lms (hval 2 38 v2 rfl rfl) h2
 obtain⟨A3,n3,c3,l3,rfl,hr3,hc3,hm3⟩:=open_ints (hval 3 39 v3 rfl rfl) h3
 obtain⟨b4,rfl,hb4⟩:=open_body (hval 4 42 v4 rfl rfl) h4
 obtain⟨a5,rfl,rfl,rfl,w5⟩:=open_int Tryd.underlying3 (hval 5 3 v5 rfl rfl) h5
 obtain⟨a6,rfl,rfl,rfl,w6⟩:=open_int Tryd.underlying3 (hval 6 3 v6 rfl rfl) h6
 clear hA0 hval0
 have hlaid:=laid_world hL
 refine(force_any a0 a1 l2 A2 n2 c2 l3 A3 n3 c3 b4 a5 a6 W hr2 hc2 hr3 hc3 (fun z hz=>(hq2 z hz).2.2.1) (i64_wf w1) hb4 hlaid).mono fun e W' ⟨he,hb⟩=>?_
 subst he
 exact⟨_,rfl,law_post laidOut (by kernel_rfl) rfl hW' hb rfl rfl Tryd.underlying4⟩
theorem over:Rows.sealsForceRow.holds Tryd.pinned (OpenSpec.ofChange Rows.sealsForceSpec) :=
 OpenClaim.holds_of_wide 4 Tryd.f4 rfl rfl rfl rfl rfl rfl rfl ⟨rfl,rfl,rfl,rfl,rfl⟩ rfl rfl rfl rfl rfl (by kernel_rfl) Tryd.func4 (by kernel_rfl)
  (of_decide_eq_true (by kernel_rfl)) (by unfold Func.isWrapper;first|(rw [if_pos (by decide +kernel)];kernel_rfl)|(rw [if_neg (by decide +kernel)];exact⟨rfl,rfl⟩))
  (fun os started H enc _=>lifted os started H enc)
theorem proved:Rows.SealsForceCardSaid :=
 Claim7.holds_tied_plain_at .later [] [.data,.data] true (true, "c3f68e746a21fc0c643233f347154198f1062233e2636b019b709adf3bb31bd2") true
  over (fun _ h=>by cases h) (by kernel_rfl) (fun _ h=>by cases h) sealsForce_row_tie rfl ⟨rfl,rfl⟩ (by kernel_rfl) rfl
  (fun f fn hf hfn=>by
   obtain rfl:f=4:=Option.some.inj ((show Tryd.prog.funcNamed "kinesphere/kinespherelaw35.SealsForce" = some 4 by kernel_rfl).symm.trans hf) |>.symm
   obtain rfl:fn=Tryd.f4:=(Option.some.inj (Tryd.func4.symm.trans hfn)).symm
   exact⟨by kernel_rfl,fun j t ht=>by
    rw [Tryd.params4]at ht
    have hm:t∈[3,3,38,39,42,3,3]:=by simpa using Array.mem_of_getElem? ht
    have hall:([3,3,38,39,42,3,3].all fun u=>!Tryd.prog.wantsStandIn u)=true:=by kernel_rfl
    exact(show Tryd.prog.wantsStandIn t=false by simpa using List.all_eq_true.1 hall t hm)⟩)
  (by kernel_rfl)
#print axioms proved
end Go.Proofs.YtidekfgkpindbaaDoor.sealsForce
