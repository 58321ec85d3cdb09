/-
  The statement 'SealsSpec' as its tied card: for every input the law returns true, and each argument reads as it read before; the listed variables are as the program's text lays them. No other condition.
-/
import Derived.Test.YtidekfgkpindbaaGreatDoorPC7
import Derived.Test.YtidekfgkpindbaaGreatDoorPC6
import Derived.Test.YtidekfgkpindbaaGreatDoorCards
import Derived.Test.YtidekfgkpindbaaGreatDoorTie
import Derived.SevenTiedAt
set_option linter.unusedSimpArgs false
set_option linter.unusedVariables false
set_option maxRecDepth 100000
set_option maxHeartbeats 4000000
namespace Go.Proofs.YtidekfgkpindbaaGreatDoor
open Go Go.RowKit SX
def rF:SX.Tree :=
(.df (.bin .eql 3) [(.q 0),(.i 1)] .one
(.br 3 []
(.df (.bin .geq 3) [(.q 1),(.i 0)] .one
(.br 4 []
(.df (.bin .leq 3) [(.q 1),(.i 2)] .one
(.br 5 []
(.df (.bin .geq 3) [(.q 2),(.i 1)] .one
(.br 6 []
(.df (.bin .leq 3) [(.q 2),(.i 3)] .one
(.ret (.q 7) [] []))
(.ret (.k (.bool false)) [] [])))
(.ret (.k (.bool false)) [] [])))
(.ret (.k (.bool false)) [] [])))
(.df (.bin .eql 3) [(.q 0),(.i 2)] .one
(.br 4 []
(.df (.bin .geq 3) [(.q 1),(.i 0)] .one
(.br 5 []
(.df (.bin .leq 3) [(.q 1),(.i 2)] .one
(.br 6 []
(.df (.bin .geq 3) [(.q 2),(.i 1)] .one
(.br 7 []
(.df (.bin .leq 3) [(.q 2),(.i 1048576)] .one
(.ret (.q 8) [] []))
(.ret (.k (.bool false)) [] [])))
(.ret (.k (.bool false)) [] [])))
(.ret (.k (.bool false)) [] [])))
(.df (.bin .eql 3) [(.q 0),(.i 3)] .one
(.br 5 []
(.df (.bin .eql 3) [(.q 1),(.i 0)] .one
(.br 6 []
(.df (.bin .geq 3) [(.q 2),(.i 1)] .one
(.br 7 []
(.df (.bin .leq 3) [(.q 2),(.i 16)] .one
(.ret (.q 8) [] []))
(.ret (.k (.bool false)) [] [])))
(.ret (.k (.bool false)) [] [])))
(.df (.bin .eql 3) [(.q 0),(.i 4)] .one
(.br 6 []
(.df (.bin .eql 3) [(.q 1),(.i 0)] .one
(.br 7 []
(.df (.bin .geq 3) [(.q 2),(.i 0)] .one
(.br 8 []
(.df (.bin .leq 3) [(.q 2),(.i 16)] .one
(.ret (.q 9) [] []))
(.ret (.k (.bool false)) [] [])))
(.ret (.k (.bool false)) [] [])))
(.df (.bin .eql 3) [(.q 0),(.i 5)] .one
(.br 7 []
(.df (.bin .eql 3) [(.q 1),(.i 0)] .one
(.br 8 []
(.df (.bin .geq 3) [(.q 2),(.i 0)] .one
(.br 9 []
(.df (.bin .leq 3) [(.q 2),(.i 500)] .one
(.ret (.q 10) [] []))
(.ret (.k (.bool false)) [] [])))
(.ret (.k (.bool false)) [] [])))
(.df (.bin .eql 3) [(.q 0),(.i 6)] .one
(.br 8 []
(.df (.bin .eql 3) [(.q 1),(.i 0)] .one
(.br 9 []
(.df (.bin .geq 3) [(.q 2),(.i 0)] .one
(.br 10 []
(.df (.bin .leq 3) [(.q 2),(.i 1048576)] .one
(.ret (.q 11) [] []))
(.ret (.k (.bool false)) [] [])))
(.ret (.k (.bool false)) [] [])))
(.ret (.k (.bool false)) [] [])))))))))))))
def yW:List SX.V:=[.a [.x 0 [],.x 1 [],.x 2 []]]
theorem Ec(K A:PZ):PY (wQ K A) ⟨fun _=>true,[],0,100⟩ 86 Tryz.f86 yW [.one,.one,.one]=rF:=by kernel_rfl
theorem DD(k l n:Int)(w:World)  : RT 86 #[.agg #[.int .i64 k,.int .i64 l,.int .i64 n]] w (.bool (decide (aL k l n))):=by
 refine PK (Ec P0 P0) [.int .i64 k,.int .i64 l,.int .i64 n] (js _ _) Tryz.func86 ?_ ?_
 ·exact fun W _=>cd (fun _ _ _ h=>h) W
 unfold rF
 refine PF (.bool ((k:Int) == 1)) ?_
 refine PH ((k:Int) == 1) (fun h3=>?_) (fun h3=>?_)
 ·try simp only [aJ]at h3
  refine PF (.bool (decide (l≥0))) ?_
  refine PH (decide (l≥0)) (fun h4=>?_) (fun h4=>?_)
  ·try simp only [aJ]at h4
   refine PF (.bool (decide (l≤2))) ?_
   refine PH (decide (l≤2)) (fun h5=>?_) (fun h5=>?_)
   ·try simp only [aJ]at h5
    refine PF (.bool (decide (n≥1))) ?_
    refine PH (decide (n≥1)) (fun h6=>?_) (fun h6=>?_)
    ·try simp only [aJ]at h6
     refine PF (.bool (decide (n≤3))) ?_
     exact PI (.bool (decide (n≤3))) (PW (by simp only [PX];unfold aL;omega))
    try simp only [aJ]at h6
    exact PI (.bool false) (PW (by simp only [PX];unfold aL;omega))
   try simp only [aJ]at h5
   exact PI (.bool false) (PW (by simp only [PX];unfold aL;omega))
  try simp only [aJ]at h4
  exact PI (.bool false) (PW (by simp only [PX];unfold aL;omega))
 try simp only [aJ]at h3
 refine PF (.bool ((k:Int) == 2)) ?_
 refine PH ((k:Int) == 2) (fun h4=>?_) (fun h4=>?_)
 ·try simp only [aJ]at h4
  refine PF (.bool (decide (l≥0))) ?_
  refine PH (decide (l≥0)) (fun h5=>?_) (fun h5=>?_)
  ·try simp only [aJ]at h5
   refine PF (.bool (decide (l≤2))) ?_
   refine PH (decide (l≤2)) (fun h6=>?_) (fun h6=>?_)
   ·try simp only [aJ]at h6
    refine PF (.bool (decide (n≥1))) ?_
    refine PH (decide (n≥1)) (fun h7=>?_) (fun h7=>?_)
    ·try simp only [aJ]at h7
     refine PF (.bool (decide (n≤1048576))) ?_
     exact PI (.bool (decide (n≤1048576))) (PW (by simp only [PX];unfold aL;omega))
    try simp only [aJ]at h7
    exact PI (.bool false) (PW (by simp only [PX];unfold aL;omega))
   try simp only [aJ]at h6
   exact PI (.bool false) (PW (by simp only [PX];unfold aL;omega))
  try simp only [aJ]at h5
  exact PI (.bool false) (PW (by simp only [PX];unfold aL;omega))
 try simp only [aJ]at h4
 refine PF (.bool ((k:Int) == 3)) ?_
 refine PH ((k:Int) == 3) (fun h5=>?_) (fun h5=>?_)
 ·try simp only [aJ]at h5
  refine PF (.bool ((l:Int) == 0)) ?_
  refine PH ((l:Int) == 0) (fun h6=>?_) (fun h6=>?_)
  ·try simp only [aJ]at h6
   refine PF (.bool (decide (n≥1))) ?_
   refine PH (decide (n≥1)) (fun h7=>?_) (fun h7=>?_)
   ·try simp only [aJ]at h7
    refine PF (.bool (decide (n≤16))) ?_
    exact PI (.bool (decide (n≤16))) (PW (by simp only [PX];unfold aL;omega))
   try simp only [aJ]at h7
   exact PI (.bool false) (PW (by simp only [PX];unfold aL;omega))
  try simp only [aJ]at h6
  exact PI (.bool false) (PW (by simp only [PX];unfold aL;omega))
 try simp only [aJ]at h5
 refine PF (.bool ((k:Int) == 4)) ?_
 refine PH ((k:Int) == 4) (fun h6=>?_) (fun h6=>?_)
 ·try simp only [aJ]at h6
  refine PF (.bool ((l:Int) == 0)) ?_
  refine PH ((l:Int) == 0) (fun h7=>?_) (fun h7=>?_)
  ·try simp only [aJ]at h7
   refine PF (.bool (decide (n≥0))) ?_
   refine PH (decide (n≥0)) (fun h8=>?_) (fun h8=>?_)
   ·try simp only [aJ]at h8
    refine PF (.bool (decide (n≤16))) ?_
    exact PI (.bool (decide (n≤16))) (PW (by simp only [PX];unfold aL;omega))
   try simp only [aJ]at h8
   exact PI (.bool false) (PW (by simp only [PX];unfold aL;omega))
  try simp only [aJ]at h7
  exact PI (.bool false) (PW (by simp only [PX];unfold aL;omega))
 try simp only [aJ]at h6
 refine PF (.bool ((k:Int) == 5)) ?_
 refine PH ((k:Int) == 5) (fun h7=>?_) (fun h7=>?_)
 ·try simp only [aJ]at h7
  refine PF (.bool ((l:Int) == 0)) ?_
  refine PH ((l:Int) == 0) (fun h8=>?_) (fun h8=>?_)
  ·try simp only [aJ]at h8
   refine PF (.bool (decide (n≥0))) ?_
   refine PH (decide (n≥0)) (fun h9=>?_) (fun h9=>?_)
   ·try simp only [aJ]at h9
    refine PF (.bool (decide (n≤500))) ?_
    exact PI (.bool (decide (n≤500))) (PW (by simp only [PX];unfold aL;omega))
   try simp only [aJ]at h9
   exact PI (.bool false) (PW (by simp only [PX];unfold aL;omega))
  try simp only [aJ]at h8
  exact PI (.bool false) (PW (by simp only [PX];unfold aL;omega))
 try simp only [aJ]at h7
 refine PF (.bool ((k:Int) == 6)) ?_
 refine PH ((k:Int) == 6) (fun h8=>?_) (fun h8=>?_)
 ·try simp only [aJ]at h8
  refine PF (.bool ((l:Int) == 0)) ?_
  refine PH ((l:Int) == 0) (fun h9=>?_) (fun h9=>?_)
  ·try simp only [aJ]at h9
   refine PF (.bool (decide (n≥0))) ?_
   refine PH (decide (n≥0)) (fun h10=>?_) (fun h10=>?_)
   ·try simp only [aJ]at h10
    refine PF (.bool (decide (n≤1048576))) ?_
    exact PI (.bool (decide (n≤1048576))) (PW (by simp only [PX];unfold aL;omega))
   try simp only [aJ]at h10
   exact PI (.bool false) (PW (by simp only [PX];unfold aL;omega))
  try simp only [aJ]at h9
  exact PI (.bool false) (PW (by simp only [PX];unfold aL;omega))
 try simp only [aJ]at h8
 exact PI (.bool false) (PW (by simp only [PX];unfold aL;omega))
def nu:SX.Tree :=
(.df (.bin .geq 3) [(.q 0),(.q 1)] .one
(.br 3 []
(.df (.bin .leq 3) [(.q 0),(.q 2)] .one
(.ret (.q 4) [] []))
(.ret (.k (.bool false)) [] [])))
def um:List SX.V:=[.x 0 [],.x 1 [],.x 2 []]
theorem yc(K A:PZ):PY (wQ K A) ⟨fun _=>true,[],0,100⟩ 85 Tryz.f85 um [.one,.one,.one]=nu:=by kernel_rfl
theorem ye(v a b:Int)(w:World)  : RT 85 #[.int .i64 v,.int .i64 a,.int .i64 b] w (.bool (decide (a≤v∧v≤b))):=by
 refine PK (yc P0 P0) [.int .i64 v,.int .i64 a,.int .i64 b] (js _ _) Tryz.func85 ?_ ?_
 ·exact fun W _=>cd (fun _ _ _ h=>h) W
 unfold nu
 refine PF (.bool (decide (v≥a))) ?_
 refine PH (decide (v≥a)) (fun h3=>?_) (fun h3=>?_)
 ·try simp only [aJ]at h3
  refine PF (.bool (decide (v≤b))) ?_
  exact PI (.bool (decide (v≤b))) (by congr 1;rw [Bool.eq_iff_iff];simp only [decide_eq_true_eq,Bool.false_eq_true,false_iff,iff_false];omega)
 try simp only [aJ]at h3
 exact PI (.bool false) (by congr 1;rw [Bool.eq_iff_iff];simp only [decide_eq_true_eq,Bool.false_eq_true,false_iff,iff_false];omega)
def oO:SX.Tree :=
(.df .bnd [(.q 0),(.q 1)] .one
(.df .bnd [(.q 0),(.q 1)] .one
(.df (.elem 9 2) [(.q 0),(.q 1)] .one
(.df (.bin .eql 3) [(.q 4),(.i 0)] .one
(.br 5 []
(.ret (.k (.bool true)) [] [])
(.loop [(.i 0),(.k (.bool false))] [.one,.one]
(.df (.bin .lss 3) [(.q 6),(.q 1)] .one
(.br 8 []
(.df .bnd [(.q 0),(.q 6)] .one
(.df .bnd [(.q 0),(.q 6)] .one
(.df (.elem 9 2) [(.q 0),(.q 6)] .one
(.df .bnd [(.q 0),(.q 1)] .one
(.df .bnd [(.q 0),(.q 1)] .one
(.df (.elem 9 2) [(.q 0),(.q 1)] .one
(.df (.bin .eql 3) [(.q 11),(.q 14)] .one
(.br 15 []
(.ret (.k (.bool false)) [] [])
(.df .bnd [(.q 0),(.q 6)] .one
(.df .bnd [(.q 0),(.q 6)] .one
(.df (.elem 9 0) [(.q 0),(.q 6)] .one
(.df (.bin .add 3) [(.q 18),(.i 1)] .one
(.df .bnd [(.q 0),(.q 1)] .one
(.df .bnd [(.q 0),(.q 1)] .one
(.df (.elem 9 2) [(.q 0),(.q 1)] .one
(.df (.bin .eql 3) [(.q 19),(.q 22)] .one
(.br 23 []
(.df .bnd [(.q 0),(.q 6)] .one
(.df .bnd [(.q 0),(.q 6)] .one
(.df (.elem 9 1) [(.q 0),(.q 6)] .one
(.df .bnd [(.q 0),(.q 1)] .one
(.df .bnd [(.q 0),(.q 1)] .one
(.df (.elem 9 1) [(.q 0),(.q 1)] .one
(.df (.bin .eql 3) [(.q 26),(.q 29)] .one
(.br 30 []
(.df .bnd [(.q 0),(.q 6)] .one
(.df .bnd [(.q 0),(.q 6)] .one
(.df (.elem 9 5) [(.q 0),(.q 6)] .one
(.df .bnd [(.q 0),(.q 1)] .one
(.df .bnd [(.q 0),(.q 1)] .one
(.df (.elem 9 5) [(.q 0),(.q 1)] .one
(.df (.bin .leq 3) [(.q 33),(.q 36)] .one
(.br 37 []
(.df (.bin .add 3) [(.q 6),(.i 1)] .one
(.again 0 [(.q 38),(.k (.bool true))]))
(.df (.bin .add 3) [(.q 6),(.i 1)] .one
(.again 0 [(.q 38),(.q 7)]))))))))))
(.df (.bin .add 3) [(.q 6),(.i 1)] .one
(.again 0 [(.q 31),(.q 7)]))))))))))
(.df (.bin .add 3) [(.q 6),(.i 1)] .one
(.again 0 [(.q 24),(.q 7)])))))))))))))))))))
(.ret (.q 7) [] [])))))))))
def wu:List SX.V:=[.x 0 [],.x 1 []]
theorem As(K A:PZ):PY (wQ K A) ⟨fun f=>true,[⟨87,5,[(.s 6,.one),(.s 5,.one)]⟩],0,100⟩ 87 Tryz.f87 wu [.one,.one]=oO:=by kernel_rfl
theorem zZ(ls:List bX)(A:Option Addr)(n c:Nat)(i:Nat)(z:bX)(w:World)(hr:Rd w 9 A n (dn ls))(hn:n≤9223372036854775807)(hc:n≤c)(hz:ls[i]?=some z)(hok:si ls i):RT 87 #[.slice A n c,.int .i64 i] w (.bool (decide (fZ (ls.take i) z))):=by
 refine PK (As (fun s sz cells=>s=.slice A n c∧sz=9∧cells=dn ls) P0) [.slice A n c,.int .i64 i] (js _ _) Tryz.func87 ?_ ?_
 ·rintro W hW s sz cells ⟨rfl,rfl,rfl⟩;exact⟨hr.aD hW,hc⟩
 have hA:=SX.rd_some hr
 have hln:ls.length=n:=by have:=hr.1;rw [dO]at this;omega
 have hin:i<n:=by have:=(List.getElem?_eq_some_iff.1 hz).1;omega
 unfold oO
 refine PQ A n c i hA (by omega) ?_
 refine PQ A n c i hA (by omega) ?_
 refine PG (.int .i64 z.of_) (fun α=>bx (o:=2) (v:=.int .i64 z.of_) (f:=aV) (l:=ls) (A:=A) (n:=n) (c:=c) (j:=i) (z:=z) (fun _=>rfl) hA (by kernel_rfl) (by kernel_rfl) (by omega) ⟨rfl,rfl,rfl⟩ hz (by decide) (by kernel_rfl)) ?_
 refine PF (.bool ((z.of_:Int) == 0)) ?_
 refine PH ((z.of_:Int) == 0) (fun h5=>?_) (fun h5=>?_)
 ·try simp only [aJ]at h5
  exact PI (.bool true) (by congr 1;symm;rw [decide_eq_true_eq];exact .inl (by simpa using h5))
 try simp only [aJ]at h5
 refine bC (fun xs=>∃ (j:Nat) (b:Bool),xs=[.int .i64 (j:Int),.bool b]∧j≤i∧(∀ y∈ls.take j,y.of_≠z.of_)∧(b=true↔∃ y∈ls.take j,y.no+1=z.of_∧y.person=z.person∧y.known≤z.known)) (fun xs=>match xs with|[.int _ j,_]=>i-j.toNat|_=>0) (fun α=>⟨0,false,by kernel_rfl,by omega,by simp,by simp⟩) ?_
 rintro xs-⟨j,b,rfl,hji,hall,hb⟩
 refine PF (.bool (decide (((j:Nat):Int)<((i:Nat):Int)))) ?_
 refine PH (decide (((j:Nat):Int)<((i:Nat):Int))) (fun h8=>?_) (fun h8=>?_)
 ·try simp only [aJ]at h8
  obtain⟨y,hy⟩:∃ z,ls[j]?=some z:=⟨_,List.getElem?_eq_getElem (by omega)⟩
  have hyb:=(ax.1 (hok j y (by omega) hy).1).1
  refine PQ A n c j hA (by omega) ?_
  refine PQ A n c j hA (by omega) ?_
  refine PG (.int .i64 y.of_) (fun α=>bx (o:=2) (v:=.int .i64 y.of_) (f:=aV) (l:=ls) (A:=A) (n:=n) (c:=c) (j:=j) (z:=y) (fun _=>rfl) hA (by kernel_rfl) (by kernel_rfl) (by omega) ⟨rfl,rfl,rfl⟩ hy (by decide) (by kernel_rfl)) ?_
  refine PQ A n c i hA (by omega) ?_
  refine PQ A n c i hA (by omega) ?_
  refine PG (.int .i64 z.of_) (fun α=>bx (o:=2) (v:=.int .i64 z.of_) (f:=aV) (l:=ls) (A:=A) (n:=n) (c:=c) (j:=i) (z:=z) (fun _=>rfl) hA (by kernel_rfl) (by kernel_rfl) (by omega) ⟨rfl,rfl,rfl⟩ hz (by decide) (by kernel_rfl)) ?_
  refine PF (.bool ((y.of_:Int) == z.of_)) ?_
  refine PH ((y.of_:Int) == z.of_) (fun h15=>?_) (fun h15=>?_)
  ·try simp only [aJ]at h15
   exact PI (.bool false) (by congr 1;symm;rw [decide_eq_false_iff_not];exact fun h=>h.elim (fun h=>by simp [h]at h5) (fun h=>h.1 y (iX hy (by omega)) (by simpa using h15)))
  try simp only [aJ]at h15
  refine PQ A n c j hA (by omega) ?_
  refine PQ A n c j hA (by omega) ?_
  refine PG (.int .i64 y.no) (fun α=>bx (o:=0) (v:=.int .i64 y.no) (f:=aV) (l:=ls) (A:=A) (n:=n) (c:=c) (j:=j) (z:=y) (fun _=>rfl) hA (by kernel_rfl) (by kernel_rfl) (by omega) ⟨rfl,rfl,rfl⟩ hy (by decide) (by kernel_rfl)) ?_
  refine PG (.int .i64 (y.no+1)) (fun α=>PL (y.no+1)) ?_
  refine PQ A n c i hA (by omega) ?_
  refine PQ A n c i hA (by omega) ?_
  refine PG (.int .i64 z.of_) (fun α=>bx (o:=2) (v:=.int .i64 z.of_) (f:=aV) (l:=ls) (A:=A) (n:=n) (c:=c) (j:=i) (z:=z) (fun _=>rfl) hA (by kernel_rfl) (by kernel_rfl) (by omega) ⟨rfl,rfl,rfl⟩ hz (by decide) (by kernel_rfl)) ?_
  refine PF (.bool ((y.no+1:Int) == z.of_)) ?_
  refine PH ((y.no+1:Int) == z.of_) (fun h23=>?_) (fun h23=>?_)
  ·try simp only [aJ]at h23
   refine PQ A n c j hA (by omega) ?_
   refine PQ A n c j hA (by omega) ?_
   refine PG (.int .i64 y.person) (fun α=>bx (o:=1) (v:=.int .i64 y.person) (f:=aV) (l:=ls) (A:=A) (n:=n) (c:=c) (j:=j) (z:=y) (fun _=>rfl) hA (by kernel_rfl) (by kernel_rfl) (by omega) ⟨rfl,rfl,rfl⟩ hy (by decide) (by kernel_rfl)) ?_
   refine PQ A n c i hA (by omega) ?_
   refine PQ A n c i hA (by omega) ?_
   refine PG (.int .i64 z.person) (fun α=>bx (o:=1) (v:=.int .i64 z.person) (f:=aV) (l:=ls) (A:=A) (n:=n) (c:=c) (j:=i) (z:=z) (fun _=>rfl) hA (by kernel_rfl) (by kernel_rfl) (by omega) ⟨rfl,rfl,rfl⟩ hz (by decide) (by kernel_rfl)) ?_
   refine PF (.bool ((y.person:Int) == z.person)) ?_
   refine PH ((y.person:Int) == z.person) (fun h30=>?_) (fun h30=>?_)
   ·try simp only [aJ]at h30
    refine PQ A n c j hA (by omega) ?_
    refine PQ A n c j hA (by omega) ?_
    refine PG (.int .i64 y.known) (fun α=>bx (o:=5) (v:=.int .i64 y.known) (f:=aV) (l:=ls) (A:=A) (n:=n) (c:=c) (j:=j) (z:=y) (fun _=>rfl) hA (by kernel_rfl) (by kernel_rfl) (by omega) ⟨rfl,rfl,rfl⟩ hy (by decide) (by kernel_rfl)) ?_
    refine PQ A n c i hA (by omega) ?_
    refine PQ A n c i hA (by omega) ?_
    refine PG (.int .i64 z.known) (fun α=>bx (o:=5) (v:=.int .i64 z.known) (f:=aV) (l:=ls) (A:=A) (n:=n) (c:=c) (j:=i) (z:=z) (fun _=>rfl) hA (by kernel_rfl) (by kernel_rfl) (by omega) ⟨rfl,rfl,rfl⟩ hz (by decide) (by kernel_rfl)) ?_
    refine PF (.bool (decide (y.known≤z.known))) ?_
    refine PH (decide (y.known≤z.known)) (fun h37=>?_) (fun h37=>?_)
    ·try simp only [aJ]at h37
     refine PG (.int .i64 (((j+1:Nat):Int))) (fun α=>PM j) ?_
     exact bk fun α=>⟨⟨j+1,true,by kernel_rfl,by omega,(gB hy).2 ⟨hall,by simpa using h15⟩,⟨fun _=>(fe hy).2 (.inr ⟨by simpa using h23,by simpa using h30,by simpa using h37⟩),fun _=>rfl⟩⟩,cast (by kernel_rfl) (show i-((j+1:Nat):Int).toNat<i-(j:Int).toNat by omega)⟩
    try simp only [aJ]at h37
    refine PG (.int .i64 (((j+1:Nat):Int))) (fun α=>PM j) ?_
    exact bk fun α=>⟨⟨j+1,b,by kernel_rfl,by omega,(gB hy).2 ⟨hall,by simpa using h15⟩,⟨fun h=>(fe hy).2 (.inl (hb.1 h)),fun h=>((fe hy).1 h).elim hb.2 (fun r=>absurd r.2.2 (by simpa using h37))⟩⟩,cast (by kernel_rfl) (show i-((j+1:Nat):Int).toNat<i-(j:Int).toNat by omega)⟩
   try simp only [aJ]at h30
   refine PG (.int .i64 (((j+1:Nat):Int))) (fun α=>PM j) ?_
   exact bk fun α=>⟨⟨j+1,b,by kernel_rfl,by omega,(gB hy).2 ⟨hall,by simpa using h15⟩,⟨fun h=>(fe hy).2 (.inl (hb.1 h)),fun h=>((fe hy).1 h).elim hb.2 (fun r=>absurd r.2.1 (by simpa using h30))⟩⟩,cast (by kernel_rfl) (show i-((j+1:Nat):Int).toNat<i-(j:Int).toNat by omega)⟩
  try simp only [aJ]at h23
  refine PG (.int .i64 (((j+1:Nat):Int))) (fun α=>PM j) ?_
  exact bk fun α=>⟨⟨j+1,b,by kernel_rfl,by omega,(gB hy).2 ⟨hall,by simpa using h15⟩,⟨fun h=>(fe hy).2 (.inl (hb.1 h)),fun h=>((fe hy).1 h).elim hb.2 (fun r=>absurd r.1 (by simpa using h23))⟩⟩,cast (by kernel_rfl) (show i-((j+1:Nat):Int).toNat<i-(j:Int).toNat by omega)⟩
 try simp only [aJ]at h8
 exact PI (.bool b) (by have hji2:j=i:=(by omega);subst hji2;congr 1;rw [Bool.eq_iff_iff,hb,decide_eq_true_eq];exact⟨fun h=>.inr ⟨hall,h⟩,fun h=>h.elim (fun h=>by simp [h]at h5) (·.2)⟩)
def Po(f:FuncId)(xs:List SX.Arg)(v:Value):Prop :=
 (f=85∧∃ a b c:Int,xs=[⟨.int .i64 a,0,[]⟩,⟨.int .i64 b,0,[]⟩,⟨.int .i64 c,0,[]⟩]∧v=.bool (decide (b≤a∧a≤c))) ∨
 (f=86∧∃ k l n:Int,xs=[⟨.agg #[.int .i64 k,.int .i64 l,.int .i64 n],0,[]⟩]∧v=.bool (decide (aL k l n))) ∨
 (f=87∧∃ (u:Value) (ls:List bX) (i:Nat) (z:bX),xs=[⟨u,9,dn ls⟩,⟨.int .i64 i,0,[]⟩]∧ls.length≤9223372036854775807∧ls[i]?=some z∧si ls i∧v=.bool (decide (fZ (ls.take i) z)))
def M8:FuncId→Option SX.Sh:=fun f=>if f=85 then some .one else if f=86 then some .one else if f=87 then some .one else none
noncomputable def Mg(K A:PZ):SX.Cx:={ P:=Tryz.prog,R:=fun _=>Po,shp:=M8,K:=K,A:=A,trm:=true }
theorem OE(K A:PZ):(Mg K A).Ok:=by
 refine SX.Cx.bP (fun _=>rfl) ?_
 intro K f xs v W hR hrd hKf
 rcases hR with ⟨rfl,a,b,c,rfl,rfl⟩|⟨rfl,k,l,n,rfl,rfl⟩|⟨rfl,u,ls,i,z,rfl,hl,hz,hok,rfl⟩
 ·exact(ye a b c W).mono fun e w' h=>al rfl h
 ·exact(DD k l n W).mono fun e w' h=>al rfl h
 obtain⟨A,n,c,rfl,h2,h3,h4⟩:=eF (hrd ⟨u,9,dn ls⟩ (by simp))
 exact(zZ ls A n c i z W h2 (by omega) h3 hz hok).mono fun e w' h=>al rfl h
def oN:SX.Tree :=
(.df (.len false) [(.q 0)] .one
(.df (.bin .gtr 3) [(.q 1),(.i 512)] .one
(.br 2 []
(.ret (.i 2) [] [])
(.loop [(.i 0)] [.one]
(.df (.len false) [(.q 0)] .one
(.df (.bin .lss 3) [(.q 3),(.q 4)] .one
(.br 5 []
(.df .bnd [(.q 0),(.q 3)] .one
(.df (.elems 9 0 9) [(.q 0),(.q 3)] (.ag 9)
(.df (.call 85 [.no,.no,.no]) [(.x 7 [0]),(.i 0),(.i 1048576)] .one
(.df .not [(.q 8)] .one
(.br 9 []
(.ret (.i 340) [] [])
(.df (.bin .gtr 3) [(.q 3),(.i 0)] .one
(.br 10 []
(.df (.bin .sub 3) [(.q 3),(.i 1)] .one
(.df .bnd [(.q 0),(.q 11)] .one
(.df .bnd [(.q 0),(.q 11)] .one
(.df (.elem 9 0) [(.q 0),(.q 11)] .one
(.df (.bin .leq 3) [(.x 7 [0]),(.q 14)] .one
(.br 15 []
(.ret (.i 340) [] [])
(.df (.call 85 [.no,.no,.no]) [(.x 7 [1]),(.i 0),(.i 63)] .one
(.df .not [(.q 16)] .one
(.br 17 []
(.ret (.i 340) [] [])
(.df (.call 85 [.no,.no,.no]) [(.x 7 [3]),(.i 0),(.x 7 [4])] .one
(.df .not [(.q 18)] .one
(.br 19 []
(.ret (.i 340) [] [])
(.df (.bin .gtr 3) [(.x 7 [4]),(.i 73048)] .one
(.br 20 []
(.ret (.i 340) [] [])
(.df (.call 85 [.no,.no,.no]) [(.x 7 [5]),(.i 0),(.i 134217727)] .one
(.df .not [(.q 21)] .one
(.br 22 []
(.ret (.i 340) [] [])
(.df (.call 86 [.no]) [(.a [(.x 7 [6]),(.x 7 [7]),(.x 7 [8])])] .one
(.df .not [(.q 23)] .one
(.br 24 []
(.df (.eqr true 3 [(.i .i64),(.i .i64),(.i .i64)]) (PN 7 6 3++[(.i 0),(.i 0),(.i 0)]) .one
(.br 25 []
(.ret (.i 340) [] [])
(.df (.bin .eql 3) [(.x 7 [2]),(.i 0)] .one
(.br 26 []
(.ret (.i 340) [] [])
(.df (.call 87 [(.ext 9),.no]) [(.q 0),(.q 3)] .one
(.df .not [(.q 27)] .one
(.br 28 []
(.ret (.i 340) [] [])
(.df (.bin .add 3) [(.q 3),(.i 1)] .one
(.again 0 [(.q 29)])))))))))
(.df (.call 87 [(.ext 9),.no]) [(.q 0),(.q 3)] .one
(.df .not [(.q 25)] .one
(.br 26 []
(.ret (.i 340) [] [])
(.df (.bin .add 3) [(.q 3),(.i 1)] .one
(.again 0 [(.q 27)])))))))))))))))))))))))))
(.df (.call 85 [.no,.no,.no]) [(.x 7 [1]),(.i 0),(.i 63)] .one
(.df .not [(.q 11)] .one
(.br 12 []
(.ret (.i 340) [] [])
(.df (.call 85 [.no,.no,.no]) [(.x 7 [3]),(.i 0),(.x 7 [4])] .one
(.df .not [(.q 13)] .one
(.br 14 []
(.ret (.i 340) [] [])
(.df (.bin .gtr 3) [(.x 7 [4]),(.i 73048)] .one
(.br 15 []
(.ret (.i 340) [] [])
(.df (.call 85 [.no,.no,.no]) [(.x 7 [5]),(.i 0),(.i 134217727)] .one
(.df .not [(.q 16)] .one
(.br 17 []
(.ret (.i 340) [] [])
(.df (.call 86 [.no]) [(.a [(.x 7 [6]),(.x 7 [7]),(.x 7 [8])])] .one
(.df .not [(.q 18)] .one
(.br 19 []
(.df (.eqr true 3 [(.i .i64),(.i .i64),(.i .i64)]) (PN 7 6 3++[(.i 0),(.i 0),(.i 0)]) .one
(.br 20 []
(.ret (.i 340) [] [])
(.df (.bin .eql 3) [(.x 7 [2]),(.i 0)] .one
(.br 21 []
(.ret (.i 340) [] [])
(.df (.call 87 [(.ext 9),.no]) [(.q 0),(.q 3)] .one
(.df .not [(.q 22)] .one
(.br 23 []
(.ret (.i 340) [] [])
(.df (.bin .add 3) [(.q 3),(.i 1)] .one
(.again 0 [(.q 24)])))))))))
(.df (.call 87 [(.ext 9),.no]) [(.q 0),(.q 3)] .one
(.df .not [(.q 20)] .one
(.br 21 []
(.ret (.i 340) [] [])
(.df (.bin .add 3) [(.q 3),(.i 1)] .one
(.again 0 [(.q 22)]))))))))))))))))))))))))))
(.ret (.i 0) [] []))))))))
def wq:List SX.V:=[.x 0 []]
theorem Aq(K A:PZ):PY (Mg K A) ⟨fun f=>false,[⟨52,4,[(.s 3,.one)]⟩],0,100⟩ 52 Tryz.f52 wq [.one]=oN:=by kernel_rfl
theorem zU(ls:List bX)(A:Option Addr)(n c:Nat)(w:World)(hr:Rd w 9 A n (dn ls))(hn:n≤9223372036854775807)(hc:n≤c):RT 52 #[.slice A n c] w (.int .i64 (cf ls)):=by
 refine PK (Aq (fun s sz cells=>s=.slice A n c∧sz=9∧cells=dn ls) P0) [.slice A n c] (OE _ _) Tryz.func52 ?_ ?_
 ·rintro W hW s sz cells ⟨rfl,rfl,rfl⟩;exact⟨hr.aD hW,hc⟩
 have hA:=SX.rd_some hr
 have hln:ls.length=n:=by have:=hr.1;rw [dO]at this;omega
 unfold oN
 refine PF (.int .i64 (((n:Nat):Int))) ?_
 refine PF (.bool (decide (((n:Nat):Int)>512))) ?_
 refine PH (decide (((n:Nat):Int)>512)) (fun h2=>?_) (fun h2=>?_)
 ·try simp only [aJ]at h2
  exact PI (.int .i64 2) (by rw [cf,if_pos (by omega)])
 try simp only [aJ]at h2
 refine bC (fun xs=>∃ (i:Nat),xs=[.int .i64 (i:Int)]∧i≤n∧si ls i) (fun xs=>match xs with|[.int _ i]=>n-i.toNat|_=>0) (fun α=>⟨0,by kernel_rfl,by omega,s5 ls⟩) ?_
 rintro xs-⟨i,rfl,hin,hok⟩
 refine PF (.int .i64 (((n:Nat):Int))) ?_
 refine PF (.bool (decide (((i:Nat):Int)<((n:Nat):Int)))) ?_
 refine PH (decide (((i:Nat):Int)<((n:Nat):Int))) (fun h5=>?_) (fun h5=>?_)
 ·try simp only [aJ]at h5
  obtain⟨z,hz⟩:∃ z,ls[i]?=some z:=⟨_,List.getElem?_eq_getElem (by omega)⟩
  refine PQ A n c i hA (by omega) ?_
  refine PR (f:=aV) (l:=ls) (.agg (aV z).toArray) A n c i z hA (by omega) ⟨rfl,rfl,rfl⟩ hz ?_
  refine PG (.bool (decide (0≤z.no∧z.no≤1048576))) (fun α=>⟨[⟨.int .i64 z.no,0,[]⟩,⟨.int .i64 0,0,[]⟩,⟨.int .i64 1048576,0,[]⟩],PV,.inl ⟨rfl,_,_,_,rfl,rfl⟩,af rfl⟩) ?_
  refine PF (.bool (!(decide (0≤z.no∧z.no≤1048576)))) ?_
  refine PH (!(decide (0≤z.no∧z.no≤1048576))) (fun h9=>?_) (fun h9=>?_)
  ·try simp only [aJ]at h9
   exact PI (.int .i64 340) (by rw [cf,if_neg (by omega),if_neg (bI hz fun hk=>by have ⟨hk1,hk2,hk3,hk4,hk5,hk6⟩:=ax.1 hk.1;have q:=h9;(try simp at q);omega)])
  try simp only [aJ]at h9
  refine PF (.bool (decide (((i:Nat):Int)>0))) ?_
  refine PH (decide (((i:Nat):Int)>0)) (fun h10=>?_) (fun h10=>?_)
  ·try simp only [aJ]at h10
   obtain⟨y,hy⟩:∃ z,ls[i-1]?=some z:=⟨_,List.getElem?_eq_getElem (by omega)⟩
   refine PG (.int .i64 (((i-1:Nat):Int))) (fun α=>Eq.trans (b:=some (.int .i64 (IntKind.i64.wrap ((i:Int)-1)))) (by kernel_rfl) (by rw [show((i-1:Nat):Int)=(i:Int)-1 by omega,wrap_i64 (by omega) (by omega)])) ?_
   refine PQ A n c (i-1) hA (by omega) ?_
   refine PQ A n c (i-1) hA (by omega) ?_
   refine PG (.int .i64 y.no) (fun α=>bx (o:=0) (v:=.int .i64 y.no) (f:=aV) (l:=ls) (A:=A) (n:=n) (c:=c) (j:=i-1) (z:=y) (fun _=>rfl) hA (by kernel_rfl) (by kernel_rfl) (by omega) ⟨rfl,rfl,rfl⟩ hy (by decide) (by kernel_rfl)) ?_
   refine PF (.bool (decide (z.no≤y.no))) ?_
   refine PH (decide (z.no≤y.no)) (fun h15=>?_) (fun h15=>?_)
   ·try simp only [aJ]at h15
    exact PI (.int .i64 340) (by rw [cf,if_neg (by omega),if_neg (bI hz fun hk=>by exact absurd ((nX hok (by omega) hy).1 hk.2.1) (by omega))])
   try simp only [aJ]at h15
   refine PG (.bool (decide (0≤z.person∧z.person≤63))) (fun α=>⟨[⟨.int .i64 z.person,0,[]⟩,⟨.int .i64 0,0,[]⟩,⟨.int .i64 63,0,[]⟩],PV,.inl ⟨rfl,_,_,_,rfl,rfl⟩,af rfl⟩) ?_
   refine PF (.bool (!(decide (0≤z.person∧z.person≤63)))) ?_
   refine PH (!(decide (0≤z.person∧z.person≤63))) (fun h17=>?_) (fun h17=>?_)
   ·try simp only [aJ]at h17
    exact PI (.int .i64 340) (by rw [cf,if_neg (by omega),if_neg (bI hz fun hk=>by have ⟨hk1,hk2,hk3,hk4,hk5,hk6⟩:=ax.1 hk.1;have q:=h17;(try simp at q);omega)])
   try simp only [aJ]at h17
   refine PG (.bool (decide (0≤z.from_∧z.from_≤z.to_))) (fun α=>⟨[⟨.int .i64 z.from_,0,[]⟩,⟨.int .i64 0,0,[]⟩,⟨.int .i64 z.to_,0,[]⟩],PV,.inl ⟨rfl,_,_,_,rfl,rfl⟩,af rfl⟩) ?_
   refine PF (.bool (!(decide (0≤z.from_∧z.from_≤z.to_)))) ?_
   refine PH (!(decide (0≤z.from_∧z.from_≤z.to_))) (fun h19=>?_) (fun h19=>?_)
   ·try simp only [aJ]at h19
    exact PI (.int .i64 340) (by rw [cf,if_neg (by omega),if_neg (bI hz fun hk=>by have ⟨hk1,hk2,hk3,hk4,hk5,hk6⟩:=ax.1 hk.1;have q:=h19;(try simp at q);omega)])
   try simp only [aJ]at h19
   refine PF (.bool (decide (z.to_>73048))) ?_
   refine PH (decide (z.to_>73048)) (fun h20=>?_) (fun h20=>?_)
   ·try simp only [aJ]at h20
    exact PI (.int .i64 340) (by rw [cf,if_neg (by omega),if_neg (bI hz fun hk=>by have ⟨hk1,hk2,hk3,hk4,hk5,hk6⟩:=ax.1 hk.1;have q:=h20;(try simp at q);omega)])
   try simp only [aJ]at h20
   refine PG (.bool (decide (0≤z.known∧z.known≤134217727))) (fun α=>⟨[⟨.int .i64 z.known,0,[]⟩,⟨.int .i64 0,0,[]⟩,⟨.int .i64 134217727,0,[]⟩],PV,.inl ⟨rfl,_,_,_,rfl,rfl⟩,af rfl⟩) ?_
   refine PF (.bool (!(decide (0≤z.known∧z.known≤134217727)))) ?_
   refine PH (!(decide (0≤z.known∧z.known≤134217727))) (fun h22=>?_) (fun h22=>?_)
   ·try simp only [aJ]at h22
    exact PI (.int .i64 340) (by rw [cf,if_neg (by omega),if_neg (bI hz fun hk=>by have ⟨hk1,hk2,hk3,hk4,hk5,hk6⟩:=ax.1 hk.1;have q:=h22;(try simp at q);omega)])
   try simp only [aJ]at h22
   refine PG (.bool (decide (aL z.kind z.limb z.n))) (fun α=>⟨[⟨.agg #[.int .i64 z.kind,.int .i64 z.limb,.int .i64 z.n],0,[]⟩],PT,.inr (.inl ⟨rfl,_,_,_,rfl,rfl⟩),af rfl⟩) ?_
   refine PF (.bool (!(decide (aL z.kind z.limb z.n)))) ?_
   refine PH (!(decide (aL z.kind z.limb z.n))) (fun h24=>?_) (fun h24=>?_)
   ·try simp only [aJ]at h24
    refine PG (.bool (true ^^ decide ((z.kind,z.limb,z.n)=((0:Int),(0:Int),(0:Int))))) (fun α=>gv (f:=iL) jr (y:=(z.kind,z.limb,z.n)) (z:=((0:Int),(0:Int),(0:Int))) (by kernel_rfl) (by kernel_rfl) (by kernel_rfl)) ?_
    refine PH (true ^^ decide ((z.kind,z.limb,z.n)=((0:Int),(0:Int),(0:Int)))) (fun h25=>?_) (fun h25=>?_)
    ·try simp only [aJ]at h25
     exact PI (.int .i64 340) (by rw [cf,if_neg (by omega),if_neg (bI hz fun hk=>by have ⟨hk1,hk2,hk3,hk4,hk5,hk6⟩:=ax.1 hk.1;exact hk6.elim (fun h=>by have q:=h24;simp [h]at q) (fun h=>by have q:=h25;simp [h.1,h.2.1,h.2.2.1]at q))])
    try simp only [aJ]at h25
    refine PF (.bool ((z.of_:Int) == 0)) ?_
    refine PH ((z.of_:Int) == 0) (fun h26=>?_) (fun h26=>?_)
    ·try simp only [aJ]at h26
     exact PI (.int .i64 340) (by rw [cf,if_neg (by omega),if_neg (bI hz fun hk=>by have ⟨hk1,hk2,hk3,hk4,hk5,hk6⟩:=ax.1 hk.1;exact hk6.elim (fun h=>by have q:=h24;simp [h]at q) (fun h=>h.2.2.2 (by simpa using h26)))])
    try simp only [aJ]at h26
    refine PG (.bool (decide (fZ (ls.take i) z))) (fun α=>⟨[⟨.slice A n c,9,dn ls⟩,⟨.int .i64 (i:Int),0,[]⟩],⟨by kernel_rfl,rfl,⟨by kernel_rfl,rfl,rfl⟩,by kernel_rfl,by kernel_rfl,trivial⟩,.inr (.inr ⟨rfl,.slice A n c,ls,i,z,rfl,by omega,hz,hok,rfl⟩),af rfl⟩) ?_
    refine PF (.bool (!(decide (fZ (ls.take i) z)))) ?_
    refine PH (!(decide (fZ (ls.take i) z))) (fun h28=>?_) (fun h28=>?_)
    ·try simp only [aJ]at h28
     exact PI (.int .i64 340) (by rw [cf,if_neg (by omega),if_neg (bI hz fun hk=>by have q:=h28;simp [hk.2.2]at q)])
    try simp only [aJ]at h28
    refine PG (.int .i64 (((i+1:Nat):Int))) (fun α=>PM i) ?_
    exact bk fun α=>⟨⟨i+1,by kernel_rfl,by omega,iY hok hz ⟨ax.2 ⟨(by have q:=h9;(try simp at q);omega),(by have q:=h17;(try simp at q);omega),(by have q:=h19;(try simp at q);omega),(by have q:=h20;(try simp at q);omega),(by have q:=h22;(try simp at q);omega),.inr (by have q1:=h25;have q2:=h26;simp at q1 q2;exact⟨q1.1,q1.2.1,q1.2.2,q2⟩)⟩,(nX hok (by omega) hy).2 (by omega),by simpa using h28⟩⟩,cast (by kernel_rfl) (show n-((i+1:Nat):Int).toNat<n-(i:Int).toNat by omega)⟩
   try simp only [aJ]at h24
   refine PG (.bool (decide (fZ (ls.take i) z))) (fun α=>⟨[⟨.slice A n c,9,dn ls⟩,⟨.int .i64 (i:Int),0,[]⟩],⟨by kernel_rfl,rfl,⟨by kernel_rfl,rfl,rfl⟩,by kernel_rfl,by kernel_rfl,trivial⟩,.inr (.inr ⟨rfl,.slice A n c,ls,i,z,rfl,by omega,hz,hok,rfl⟩),af rfl⟩) ?_
   refine PF (.bool (!(decide (fZ (ls.take i) z)))) ?_
   refine PH (!(decide (fZ (ls.take i) z))) (fun h26=>?_) (fun h26=>?_)
   ·try simp only [aJ]at h26
    exact PI (.int .i64 340) (by rw [cf,if_neg (by omega),if_neg (bI hz fun hk=>by have q:=h26;simp [hk.2.2]at q)])
   try simp only [aJ]at h26
   refine PG (.int .i64 (((i+1:Nat):Int))) (fun α=>PM i) ?_
   exact bk fun α=>⟨⟨i+1,by kernel_rfl,by omega,iY hok hz ⟨ax.2 ⟨(by have q:=h9;(try simp at q);omega),(by have q:=h17;(try simp at q);omega),(by have q:=h19;(try simp at q);omega),(by have q:=h20;(try simp at q);omega),(by have q:=h22;(try simp at q);omega),.inl (by simpa using h24)⟩,(nX hok (by omega) hy).2 (by omega),by simpa using h26⟩⟩,cast (by kernel_rfl) (show n-((i+1:Nat):Int).toNat<n-(i:Int).toNat by omega)⟩
  try simp only [aJ]at h10
  refine PG (.bool (decide (0≤z.person∧z.person≤63))) (fun α=>⟨[⟨.int .i64 z.person,0,[]⟩,⟨.int .i64 0,0,[]⟩,⟨.int .i64 63,0,[]⟩],PV,.inl ⟨rfl,_,_,_,rfl,rfl⟩,af rfl⟩) ?_
  refine PF (.bool (!(decide (0≤z.person∧z.person≤63)))) ?_
  refine PH (!(decide (0≤z.person∧z.person≤63))) (fun h12=>?_) (fun h12=>?_)
  ·try simp only [aJ]at h12
   exact PI (.int .i64 340) (by rw [cf,if_neg (by omega),if_neg (bI hz fun hk=>by have ⟨hk1,hk2,hk3,hk4,hk5,hk6⟩:=ax.1 hk.1;have q:=h12;(try simp at q);omega)])
  try simp only [aJ]at h12
  refine PG (.bool (decide (0≤z.from_∧z.from_≤z.to_))) (fun α=>⟨[⟨.int .i64 z.from_,0,[]⟩,⟨.int .i64 0,0,[]⟩,⟨.int .i64 z.to_,0,[]⟩],PV,.inl ⟨rfl,_,_,_,rfl,rfl⟩,af rfl⟩) ?_
  refine PF (.bool (!(decide (0≤z.from_∧z.from_≤z.to_)))) ?_
  refine PH (!(decide (0≤z.from_∧z.from_≤z.to_))) (fun h14=>?_) (fun h14=>?_)
  ·try simp only [aJ]at h14
   exact PI (.int .i64 340) (by rw [cf,if_neg (by omega),if_neg (bI hz fun hk=>by have ⟨hk1,hk2,hk3,hk4,hk5,hk6⟩:=ax.1 hk.1;have q:=h14;(try simp at q);omega)])
  try simp only [aJ]at h14
  refine PF (.bool (decide (z.to_>73048))) ?_
  refine PH (decide (z.to_>73048)) (fun h15=>?_) (fun h15=>?_)
  ·try simp only [aJ]at h15
   exact PI (.int .i64 340) (by rw [cf,if_neg (by omega),if_neg (bI hz fun hk=>by have ⟨hk1,hk2,hk3,hk4,hk5,hk6⟩:=ax.1 hk.1;have q:=h15;(try simp at q);omega)])
  try simp only [aJ]at h15
  refine PG (.bool (decide (0≤z.known∧z.known≤134217727))) (fun α=>⟨[⟨.int .i64 z.known,0,[]⟩,⟨.int .i64 0,0,[]⟩,⟨.int .i64 134217727,0,[]⟩],PV,.inl ⟨rfl,_,_,_,rfl,rfl⟩,af rfl⟩) ?_
  refine PF (.bool (!(decide (0≤z.known∧z.known≤134217727)))) ?_
  refine PH (!(decide (0≤z.known∧z.known≤134217727))) (fun h17=>?_) (fun h17=>?_)
  ·try simp only [aJ]at h17
   exact PI (.int .i64 340) (by rw [cf,if_neg (by omega),if_neg (bI hz fun hk=>by have ⟨hk1,hk2,hk3,hk4,hk5,hk6⟩:=ax.1 hk.1;have q:=h17;(try simp at q);omega)])
  try simp only [aJ]at h17
  refine PG (.bool (decide (aL z.kind z.limb z.n))) (fun α=>⟨[⟨.agg #[.int .i64 z.kind,.int .i64 z.limb,.int .i64 z.n],0,[]⟩],PT,.inr (.inl ⟨rfl,_,_,_,rfl,rfl⟩),af rfl⟩) ?_
  refine PF (.bool (!(decide (aL z.kind z.limb z.n)))) ?_
  refine PH (!(decide (aL z.kind z.limb z.n))) (fun h19=>?_) (fun h19=>?_)
  ·try simp only [aJ]at h19
   refine PG (.bool (true ^^ decide ((z.kind,z.limb,z.n)=((0:Int),(0:Int),(0:Int))))) (fun α=>gv (f:=iL) jr (y:=(z.kind,z.limb,z.n)) (z:=((0:Int),(0:Int),(0:Int))) (by kernel_rfl) (by kernel_rfl) (by kernel_rfl)) ?_
   refine PH (true ^^ decide ((z.kind,z.limb,z.n)=((0:Int),(0:Int),(0:Int)))) (fun h20=>?_) (fun h20=>?_)
   ·try simp only [aJ]at h20
    exact PI (.int .i64 340) (by rw [cf,if_neg (by omega),if_neg (bI hz fun hk=>by have ⟨hk1,hk2,hk3,hk4,hk5,hk6⟩:=ax.1 hk.1;exact hk6.elim (fun h=>by have q:=h19;simp [h]at q) (fun h=>by have q:=h20;simp [h.1,h.2.1,h.2.2.1]at q))])
   try simp only [aJ]at h20
   refine PF (.bool ((z.of_:Int) == 0)) ?_
   refine PH ((z.of_:Int) == 0) (fun h21=>?_) (fun h21=>?_)
   ·try simp only [aJ]at h21
    exact PI (.int .i64 340) (by rw [cf,if_neg (by omega),if_neg (bI hz fun hk=>by have ⟨hk1,hk2,hk3,hk4,hk5,hk6⟩:=ax.1 hk.1;exact hk6.elim (fun h=>by have q:=h19;simp [h]at q) (fun h=>h.2.2.2 (by simpa using h21)))])
   try simp only [aJ]at h21
   refine PG (.bool (decide (fZ (ls.take i) z))) (fun α=>⟨[⟨.slice A n c,9,dn ls⟩,⟨.int .i64 (i:Int),0,[]⟩],⟨by kernel_rfl,rfl,⟨by kernel_rfl,rfl,rfl⟩,by kernel_rfl,by kernel_rfl,trivial⟩,.inr (.inr ⟨rfl,.slice A n c,ls,i,z,rfl,by omega,hz,hok,rfl⟩),af rfl⟩) ?_
   refine PF (.bool (!(decide (fZ (ls.take i) z)))) ?_
   refine PH (!(decide (fZ (ls.take i) z))) (fun h23=>?_) (fun h23=>?_)
   ·try simp only [aJ]at h23
    exact PI (.int .i64 340) (by rw [cf,if_neg (by omega),if_neg (bI hz fun hk=>by have q:=h23;simp [hk.2.2]at q)])
   try simp only [aJ]at h23
   refine PG (.int .i64 (((i+1:Nat):Int))) (fun α=>PM i) ?_
   exact bk fun α=>⟨⟨i+1,by kernel_rfl,by omega,iY hok hz ⟨ax.2 ⟨(by have q:=h9;(try simp at q);omega),(by have q:=h12;(try simp at q);omega),(by have q:=h14;(try simp at q);omega),(by have q:=h15;(try simp at q);omega),(by have q:=h17;(try simp at q);omega),.inr (by have q1:=h20;have q2:=h21;simp at q1 q2;exact⟨q1.1,q1.2.1,q1.2.2,q2⟩)⟩,fun q hq=>absurd (gH hq) (by rintro⟨j,hj,-⟩;omega),by simpa using h23⟩⟩,cast (by kernel_rfl) (show n-((i+1:Nat):Int).toNat<n-(i:Int).toNat by omega)⟩
  try simp only [aJ]at h19
  refine PG (.bool (decide (fZ (ls.take i) z))) (fun α=>⟨[⟨.slice A n c,9,dn ls⟩,⟨.int .i64 (i:Int),0,[]⟩],⟨by kernel_rfl,rfl,⟨by kernel_rfl,rfl,rfl⟩,by kernel_rfl,by kernel_rfl,trivial⟩,.inr (.inr ⟨rfl,.slice A n c,ls,i,z,rfl,by omega,hz,hok,rfl⟩),af rfl⟩) ?_
  refine PF (.bool (!(decide (fZ (ls.take i) z)))) ?_
  refine PH (!(decide (fZ (ls.take i) z))) (fun h21=>?_) (fun h21=>?_)
  ·try simp only [aJ]at h21
   exact PI (.int .i64 340) (by rw [cf,if_neg (by omega),if_neg (bI hz fun hk=>by have q:=h21;simp [hk.2.2]at q)])
  try simp only [aJ]at h21
  refine PG (.int .i64 (((i+1:Nat):Int))) (fun α=>PM i) ?_
  exact bk fun α=>⟨⟨i+1,by kernel_rfl,by omega,iY hok hz ⟨ax.2 ⟨(by have q:=h9;(try simp at q);omega),(by have q:=h12;(try simp at q);omega),(by have q:=h14;(try simp at q);omega),(by have q:=h15;(try simp at q);omega),(by have q:=h17;(try simp at q);omega),.inl (by simpa using h19)⟩,fun q hq=>absurd (gH hq) (by rintro⟨j,hj,-⟩;omega),by simpa using h21⟩⟩,cast (by kernel_rfl) (show n-((i+1:Nat):Int).toNat<n-(i:Int).toNat by omega)⟩
 try simp only [aJ]at h5
 exact PI (.int .i64 0) (by rw [cf,if_neg (by omega),if_pos (xA hok (by omega))])
theorem nd{C:SX.Cx}{ρ:List Value}{α:Nat→SX.AV}{y:SX.V}{l:List Value}{j sz:Nat}(h:ρ.getD j undef=.agg l.toArray):nZ C ρ α sz (.row sz [.x j []]) y l:=⟨⟨y.den ρ α,sz,l⟩,⟨by rw [← bq (α:=α) h];simp [SX.V.den,aa],trivial⟩,rfl,rfl⟩
theorem MN(u:Nat):BitVec.ofNat 8 (u % 128+128)=BitVec.ofNat 8 u|||128#8:=by
 apply BitVec.eq_of_toNat_eq
 rw [BitVec.toNat_or,BitVec.toNat_ofNat,BitVec.toNat_ofNat]
 show(u % 128+128) % 256=u % 256|||128
 have h:∀ m<256,m|||128=m % 128+128:=by decide
 rw [h (u % 256) (by omega)]
 omega
theorem HO(u:Nat):aR .rem (.int .u64 (u:Int)) (.int .u64 (128:Int))=some (.int .u64 ((u % 128:Nat):Int)):=by
 have e:((u % 128:Nat):Int)=(u:Int).tmod 128:=by
  rw [Int.tmod_eq_emod_of_nonneg (by omega)];rfl
 simp only [aR]
 rw [if_pos trivial,if_neg (by decide),e]
theorem HH(u:Nat)(h:u<128):aR .add (.int .u64 (u:Int)) (.int .u64 (128:Int))=some (.int .u64 ((u+128:Nat):Int)):=by
 simp only [aR,mm,if_true]
 rw [ez]
 congr 2
 omega
theorem HN(u:Nat)(h:u<18446744073709551616):aR .quo (.int .u64 (u:Int)) (.int .u64 (128:Int))=some (.int .u64 ((u / 128:Nat):Int)):=by
 have h2:(u:Int).tdiv 128=((u / 128:Nat):Int):=by
  rw [Int.tdiv_eq_ediv_of_nonneg (by omega)];rfl
 simp only [aR,if_true,h2]
 rw [if_neg (by decide),ez]
 congr 2
 omega
theorem iP(l:List W8):SX.Sh.fit (.sl 1) (.agg (l.flatMap c8).toArray)=true:=by
 have h2:(l.flatMap c8).all (·.oneCell')=true:=by
  rw [List.all_eq_true]
  intro u hu
  obtain⟨a,_,h⟩:=List.mem_flatMap.1 hu
  exact vM a u h
 have h1:(l.flatMap c8).length % 1=0:=Nat.mod_one _
 simp only [SX.Sh.fit,h1,h2]
 rfl
def NP(U:Nat)(f:FuncId)(xs:List SX.Arg)(v:Value):Prop:=f=121∧∃ u:Nat,u<U∧u<18446744073709551616∧xs=[⟨.int .u64 (u:Int),0,[]⟩]∧v=.agg ((bS u).flatMap c8).toArray
noncomputable def Mh(U:Nat)(K A:PZ):SX.Cx:={ P:=Tryz.prog,R:=fun _=>NP U,shp:=fun f=>if f=121 then some (.sl 1)else none,K:=K,A:=A,bsr:=true }
def tN:SX.Tree :=
(.df (.bin .lss 140) [(.q 0),(.k (.int .u64 128))] .one
(.br 1 []
(.df (.conv .u8) [(.q 0)] .one
(.ret (.row 0) [(some ⟨[(.a [(.q 2)])],5,(.row 1)⟩)] []))
(.df (.bin .rem 140) [(.q 0),(.k (.int .u64 128))] .one
(.df (.bin .add 140) [(.q 2),(.k (.int .u64 128))] .one
(.df (.conv .u8) [(.q 3)] .one
(.df (.bin .quo 140) [(.q 0),(.k (.int .u64 128))] .one
(.df (.call 121 [.no]) [(.q 5)] (.sl 1)
(.df (.dR 1 1 (.row 1 [(.q 6)])) [(.cat [(.a [(.q 4)])]),(.row 1)] .any
(.ret (.row 2) [none,none,(some ⟨[(.a [(.q 4)]),(.q 7)],5,(.row 1)⟩)] [])))))))))
def Ck:List SX.V:=[.x 0 []]
theorem G6(U:Nat)(K A:PZ):PY (Mh U K A) ⟨fun f=>f != 121,[],2,100⟩ 121 Tryz.f121 Ck [.one]=tN:=by kernel_rfl
theorem DL(U u:Nat)(hok:∀ K A,(Mh U K A).Ok)(hu:u<18446744073709551616)(hU:128≤u→u / 128<U)(w:World):RS 121 #[.int .u64 (u:Int)] w 1 ((bS u).flatMap c8):=by
 refine PK (G6 U P0 P0) [.int .u64 (u:Int)] (hok _ _) Tryz.func121 ?_ ?_
 ·exact fun W _=>cd (fun _ _ _ h=>h) W
 unfold tN
 refine PF (.bool (decide ((u:Int)<128))) ?_
 refine PH (decide ((u:Int)<128)) (fun h1=>?_) (fun h1=>?_)
 ·have h1:u<128:=by have:=of_decide_eq_true h1;omega
  refine PJ (w8 (BitVec.ofNat 8 u)) (tU u .u64) ?_
  exact aY fun α W _ hrow hS=>⟨hS.below,_,by kernel_rfl,az.row hS (n:=0) (b:=(⟨[(.a [(.x 2 [])])],5,(.row 1)⟩:ae)) (by kernel_rfl) rfl (hrow 0 _ (by kernel_rfl)) (Eq.trans (b:=[Value.agg #[w8 (BitVec.ofNat 8 u)]].flatMap aa) (by kernel_rfl) (by rw [di h1];rfl))⟩
 have h1:¬ u<128:=by have:=of_decide_eq_false h1;omega
 have hlen:=cK 8 (u / 128) (by omega)
 refine PJ (.int .u64 ((u % 128:Nat):Int)) (HO u) ?_
 refine PJ (.int .u64 ((u % 128+128:Nat):Int)) (HH (u % 128) (by omega)) ?_
 refine PG (w8 (BitVec.ofNat 8 u|||128#8)) (fun α=>by rw [← MN];exact cast (by kernel_rfl) (tU (u % 128+128) .u64)) ?_
 refine PJ (.int .u64 ((u / 128:Nat):Int)) (HN u hu) ?_
 refine aK (.agg ((bS (u / 128)).flatMap c8).toArray) (fun α=>⟨[⟨.int .u64 ((u / 128:Nat):Int),0,[]⟩],PT,⟨rfl,u / 128,hU (by omega),by omega,rfl,rfl⟩,af rfl⟩) (iP _) ?_
 refine aK (.agg ((bS (u / 128)).flatMap c8).toArray) (fun α=>av (f:=c8) (l1:=[BitVec.ofNat 8 u|||128#8]) (l2:=bS (u / 128)) (fun _=>rfl) vM (by decide) (by kernel_rfl) (nd (by kernel_rfl)) (by simp only [LL];omega) (by simp only [LL];omega)) rfl ?_
 exact aY fun α W _ hrow hS=>⟨hS.below,_,by kernel_rfl,az.row hS (n:=2) (b:=(⟨[(.a [(.x 4 [])]),(.x 7 [])],5,(.row 1)⟩:ae)) (by kernel_rfl) rfl (hrow 2 _ (by kernel_rfl)) (Eq.trans (b:=[Value.agg #[w8 (BitVec.ofNat 8 u|||128#8)],Value.agg ((bS (u / 128)).flatMap c8).toArray].flatMap aa) (by kernel_rfl) (by rw [pv h1];simp [aa,c8]))⟩
theorem xP:∀ (U u:Nat),u<U→u<18446744073709551616→∀ w:World,Calls Tryz.prog 121 #[.int .u64 (u:Int)] w fun e w'=>Below w.heap.size w w'∧∃ hdr,e=.returned hdr∧az w w' [] hdr 1 ((bS u).flatMap c8)
 | 0,u,h,_,_=>absurd h (by omega)
 | U+1,u,h,hu,w=>DL U u (fun K A=>SX.Cx.bP (fun _=>rfl) fun _ f xs v W hR hrd hKf=>by
  obtain⟨rfl,y,hy,hyu,rfl,rfl⟩:=hR
  exact(xP U y hy hyu W).mono fun e w' h=>az.uS rfl h) hu (by omega) w
theorem m5(u:Nat)(hu:u<18446744073709551616)(w:World):Calls Tryz.prog 121 #[.int .u64 (u:Int)] w fun e w'=>Below w.heap.size w w'∧∃ hdr,e=.returned hdr∧az w w' [] hdr 1 ((bS u).flatMap c8):=xP (u+1) u (by omega) hu w
def tP:SX.Tree :=
(.df (.bin .geq 3) [(.q 0),(.i 0)] .one
(.br 1 []
(.df (.conv .u64) [(.q 0)] .one
(.df (.bin .mul 140) [(.k (.int .u64 2)),(.q 2)] .one
(.ret (.q 3) [] [])))
(.df (.bin .add 3) [(.q 0),(.i 1)] .one
(.df .neg [(.q 2)] .one
(.df (.conv .u64) [(.q 3)] .one
(.df (.bin .mul 140) [(.k (.int .u64 2)),(.q 4)] .one
(.df (.bin .add 140) [(.q 5),(.k (.int .u64 1))] .one
(.ret (.q 6) [] []))))))))
def Cm:List SX.V:=[.x 0 []]
theorem Hb(K A:PZ):PY (rW K A) ⟨fun f=>true,[],0,100⟩ 122 Tryz.f122 Cm [.one]=tP:=by kernel_rfl
theorem Hh(k:Int)(w:World)(h1 : -9223372036854775808≤k)(h2:k≤9223372036854775807):RT 122 #[.int .i64 k] w (.int .u64 (ey k:Int)):=by
 refine PK (Hb P0 P0) [.int .i64 k] (eJ _ _) Tryz.func122 ?_ ?_
 ·exact fun W _=>cd (fun _ _ _ h=>h) W
 unfold tP
 have hul:=lh h1 h2
 refine PF (.bool (decide (k≥0))) ?_
 refine PH (decide (k≥0)) (fun h3=>?_) (fun h3=>?_)
 ·have h3:0≤k:=of_decide_eq_true h3
  obtain⟨m,rfl⟩:∃ m:Nat,k=(m:Int):=⟨k.toNat,by omega⟩
  refine PG (.int .u64 (m:Int)) (fun α=>Eq.trans (b:=some (.int .u64 (IntKind.u64.wrap (m:Int)))) (by kernel_rfl) (by rw [ez];congr 2;omega)) ?_
  refine PG (.int .u64 ((2*m:Nat):Int)) (fun α=>Eq.trans (b:=some (.int .u64 (IntKind.u64.wrap (2*(m:Int))))) (by kernel_rfl) (by rw [ez];congr 2;omega)) ?_
  exact PI (.int .u64 ((2*m:Nat):Int)) (by rw [show ey (m:Int)=2*m by unfold ey;rw [if_pos h3];omega])
 have h3:k<0:=by have:=of_decide_eq_false h3;omega
 obtain⟨m,hm⟩:∃ m:Nat,k = -((m:Int)+1):=⟨(-k-1).toNat,by omega⟩
 refine PG (.int .i64 (k+1)) (fun α=>PL (k+1)) ?_
 refine PG (.int .i64 (-(k+1))) (fun α=>PL (-(k+1))) ?_
 refine PG (.int .u64 (m:Int)) (fun α=>Eq.trans (b:=some (.int .u64 (IntKind.u64.wrap (-(k+1))))) (by kernel_rfl) (by rw [ez];congr 2;omega)) ?_
 refine PG (.int .u64 ((2*m:Nat):Int)) (fun α=>Eq.trans (b:=some (.int .u64 (IntKind.u64.wrap (2*(m:Int))))) (by kernel_rfl) (by rw [ez];congr 2;omega)) ?_
 refine PG (.int .u64 ((2*m+1:Nat):Int)) (fun α=>Eq.trans (b:=some (.int .u64 (IntKind.u64.wrap (((2*m:Nat):Int)+1)))) (by kernel_rfl) (by rw [ez];congr 2;omega)) ?_
 exact PI (.int .u64 ((2*m+1:Nat):Int)) (by rw [show ey k=2*m+1 by unfold ey;rw [if_neg (by omega)];omega])
def tK:SX.Tree :=
(.ret (.k (.bool true)) [] [])
def Cg:List SX.V:=[.a [.k (.int .i64 1),.x 0 [],.k (.string ⟨#[]⟩),.k (.slice none 0 0)]]
theorem G3(K A:PZ):PY (rW K A) ⟨fun f=>true,[],0,100⟩ 119 Tryz.f119 Cg [.one]=tK:=by kernel_rfl
theorem GC(k:Int)(w:World):RT 119 #[.agg #[.int .i64 1,.int .i64 k,.string ⟨#[]⟩,.slice none 0 0]] w (.bool true):=by
 refine PK (G3 P0 P0) [.int .i64 k] (eJ _ _) Tryz.func119 ?_ ?_
 ·exact fun W _=>cd (fun _ _ _ h=>h) W
 unfold tK
 exact PI (.bool true) rfl
def tL:SX.Tree :=
(.ret (.k (.bool true)) [] [])
def Ci:List SX.V:=[.a [.k (.int .i64 2),.k (.int .i64 0),.x 0 [],.k (.slice none 0 0)]]
theorem G4(K A:PZ):PY (rW K A) ⟨fun f=>true,[],0,100⟩ 119 Tryz.f119 Ci [.one]=tL:=by kernel_rfl
theorem GD(b:ByteArray)(w:World):RT 119 #[.agg #[.int .i64 2,.int .i64 0,.string b,.slice none 0 0]] w (.bool true):=by
 refine PK (G4 P0 P0) [.string b] (eJ _ _) Tryz.func119 ?_ ?_
 ·exact fun W _=>cd (fun _ _ _ h=>h) W
 unfold tL
 exact PI (.bool true) rfl
def tD:SX.Tree :=
(.ret (.i 0) [] [])
def B9:List SX.V:=[.a [.k (.int .i64 1),.x 0 [],.k (.string ⟨#[]⟩),.k (.slice none 0 0)]]
theorem GW(K A:PZ):PY (rW K A) ⟨fun f=>true,[],0,100⟩ 120 Tryz.f120 B9 [.one]=tD:=by kernel_rfl
theorem Gw(k:Int)(w:World):RT 120 #[.agg #[.int .i64 1,.int .i64 k,.string ⟨#[]⟩,.slice none 0 0]] w (.int .i64 0):=by
 refine PK (GW P0 P0) [.int .i64 k] (eJ _ _) Tryz.func120 ?_ ?_
 ·exact fun W _=>cd (fun _ _ _ h=>h) W
 unfold tD
 exact PI (.int .i64 0) rfl
def tE:SX.Tree :=
(.ret (.i 0) [] [])
def Ca:List SX.V:=[.a [.k (.int .i64 2),.k (.int .i64 0),.x 0 [],.k (.slice none 0 0)]]
theorem GX(K A:PZ):PY (rW K A) ⟨fun f=>true,[],0,100⟩ 120 Tryz.f120 Ca [.one]=tE:=by kernel_rfl
theorem Gx(b:ByteArray)(w:World):RT 120 #[.agg #[.int .i64 2,.int .i64 0,.string b,.slice none 0 0]] w (.int .i64 0):=by
 refine PK (GX P0 P0) [.string b] (eJ _ _) Tryz.func120 ?_ ?_
 ·exact fun W _=>cd (fun _ _ _ h=>h) W
 unfold tE
 exact PI (.int .i64 0) rfl
def Pu(f:FuncId)(xs:List SX.Arg)(v:Value):Prop :=
 (f=119∧∃ z:Fl,xs=[⟨jh z,0,[]⟩]∧v=.bool true) ∨
 (f=120∧∃ z:Fl,xs=[⟨jh z,0,[]⟩]∧v=.int .i64 0)
def Nf:FuncId→Option SX.Sh:=fun f=>if f=119 then some .one else if f=120 then some .one else none
noncomputable def Kv(K A:PZ):SX.Cx:={ P:=Tryz.prog,R:=fun _=>Pu,shp:=Nf,K:=K,A:=A }
theorem MK(K A:PZ):(Kv K A).Ok:=by
 refine SX.Cx.bP (fun _=>rfl) ?_
 intro K f xs v W hR hrd hKf
 rcases hR with ⟨rfl,z,rfl,rfl⟩|⟨rfl,z,rfl,rfl⟩
 ·cases z with
  | n k=>exact(GC k W).mono fun e w' h=>al rfl h
  | s b=>exact(GD b W).mono fun e w' h=>al rfl h
 cases z with
 | n k=>exact(Gw k W).mono fun e w' h=>al rfl h
 | s b=>exact(Gx b W).mono fun e w' h=>al rfl h
def tM:SX.Tree :=
(.loop [(.i 0)] [.one]
(.df (.len false) [(.q 0)] .one
(.df (.bin .lss 3) [(.q 1),(.q 2)] .one
(.br 3 []
(.df .bnd [(.q 0),(.q 1)] .one
(.df (.elems 4 0 4) [(.q 0),(.q 1)] (.ag 4)
(.df (.call 119 [.no]) [(.a (PN 5 0 4))] .one
(.df .not [(.q 6)] .one
(.br 7 []
(.ret (.k (.bool false)) [] [])
(.df (.bin .add 3) [(.q 1),(.i 1)] .one
(.again 0 [(.q 8)])))))))
(.ret (.k (.bool true)) [] [])))))
def Cj:List SX.V:=[.a [.k (.int .i64 3),.k (.int .i64 0),.k (.string ⟨#[]⟩),.x 0 []]]
theorem G5(K A:PZ):PY (Kv K A) ⟨fun f=>f != 119,[⟨119,8,[(.s 3,.one)]⟩],0,100⟩ 119 Tryz.f119 Cj [.one]=tM:=by kernel_rfl
theorem GF(fl:List Fl)(A:Option Addr)(n c:Nat)(w:World)(hr:Rd w 4 A n (gn fl))(hn:n≤1048576)(hc:n≤c):RT 119 #[.agg #[.int .i64 3,.int .i64 0,.string ⟨#[]⟩,.slice A n c]] w (.bool true):=by
 refine PK (G5 (fun s sz cells=>s=.slice A n c∧sz=4∧cells=gn fl) P0) [.slice A n c] (MK _ _) Tryz.func119 ?_ ?_
 ·rintro W hW s sz cells ⟨rfl,rfl,rfl⟩;exact⟨hr.aD hW,hc⟩
 have hA:=SX.rd_some hr
 have hln:fl.length=n:=by have:=hr.1;rw [gx]at this;omega
 unfold tM
 refine bC (fun xs=>∃ (i:Nat),xs=[.int .i64 (i:Int)]∧i≤n) (fun xs=>match xs with|.int _ i::_=>n-i.toNat|_=>0) (fun α=>⟨0,by kernel_rfl,by omega⟩) ?_
 rintro xs-⟨i,rfl,hin⟩
 refine PF (.int .i64 (n:Int)) ?_
 refine PF (.bool (decide ((i:Int)<(n:Int)))) ?_
 refine PH (decide ((i:Int)<(n:Int))) (fun h4=>?_) (fun h4=>?_)
 ·have h4:i<n:=by have:=of_decide_eq_true h4;omega
  obtain⟨z,hz⟩:∃ z,fl[i]?=some z:=⟨_,List.getElem?_eq_getElem (by omega)⟩
  refine PQ A n c i hA h4 ?_
  refine aK (jh z) (fun α=>gL (f:=aH) (l:=fl) (A:=A) (n:=n) (c:=c) (j:=i) (z:=z) aS hA (by kernel_rfl) (by kernel_rfl) h4 ⟨rfl,rfl,rfl⟩ hz) (by cases z<;>rfl) ?_
  refine PG (.bool true) (fun α=>⟨[⟨jh z,0,[]⟩],⟨(by cases z<;>kernel_rfl),by kernel_rfl,trivial⟩,.inl ⟨rfl,z,rfl,rfl⟩,af rfl⟩) ?_
  refine PF (.bool false) ?_
  refine PH false (fun h=>nomatch h) (fun _=>?_)
  refine PG (.int .i64 ((i+1:Nat):Int)) (fun α=>PM i) ?_
  exact bk fun α=>⟨⟨i+1,by kernel_rfl,by omega⟩,cast (by kernel_rfl) (show n-((i+1:Nat):Int).toNat<n-(i:Int).toNat by omega)⟩
 exact PI (.bool true) rfl
def tF:SX.Tree :=
(.loop [(.i 0),(.i 0)] [.one,.one]
(.df (.len false) [(.q 0)] .one
(.df (.bin .lss 3) [(.q 1),(.q 3)] .one
(.br 4 []
(.df .bnd [(.q 0),(.q 1)] .one
(.df (.elems 4 0 4) [(.q 0),(.q 1)] (.ag 4)
(.df (.call 120 [.no]) [(.a (PN 6 0 4))] .one
(.df .max [(.q 2),(.q 7)] .one
(.df (.bin .add 3) [(.q 1),(.i 1)] .one
(.again 0 [(.q 9),(.q 8)]))))))
(.df (.bin .add 3) [(.q 2),(.i 1)] .one
(.ret (.q 5) [] []))))))
def Cb:List SX.V:=[.a [.k (.int .i64 3),.k (.int .i64 0),.k (.string ⟨#[]⟩),.x 0 []]]
theorem GY(K A:PZ):PY (Kv K A) ⟨fun f=>f != 120,[⟨120,5,[(.s 4,.one),(.s 3,.one)]⟩],0,100⟩ 120 Tryz.f120 Cb [.one]=tF:=by kernel_rfl
theorem Gy(fl:List Fl)(A:Option Addr)(n c:Nat)(w:World)(hr:Rd w 4 A n (gn fl))(hn:n≤1048576)(hc:n≤c):RT 120 #[.agg #[.int .i64 3,.int .i64 0,.string ⟨#[]⟩,.slice A n c]] w (.int .i64 1):=by
 refine PK (GY (fun s sz cells=>s=.slice A n c∧sz=4∧cells=gn fl) P0) [.slice A n c] (MK _ _) Tryz.func120 ?_ ?_
 ·rintro W hW s sz cells ⟨rfl,rfl,rfl⟩;exact⟨hr.aD hW,hc⟩
 have hA:=SX.rd_some hr
 have hln:fl.length=n:=by have:=hr.1;rw [gx]at this;omega
 unfold tF
 refine bC (fun xs=>∃ (i:Nat),xs=[.int .i64 (i:Int),.int .i64 0]∧i≤n) (fun xs=>match xs with|.int _ i::_=>n-i.toNat|_=>0) (fun α=>⟨0,by kernel_rfl,by omega⟩) ?_
 rintro xs-⟨i,rfl,hin⟩
 refine PF (.int .i64 (n:Int)) ?_
 refine PF (.bool (decide ((i:Int)<(n:Int)))) ?_
 refine PH (decide ((i:Int)<(n:Int))) (fun h4=>?_) (fun h4=>?_)
 ·have h4:i<n:=by have:=of_decide_eq_true h4;omega
  obtain⟨z,hz⟩:∃ z,fl[i]?=some z:=⟨_,List.getElem?_eq_getElem (by omega)⟩
  refine PQ A n c i hA h4 ?_
  refine aK (jh z) (fun α=>gL (f:=aH) (l:=fl) (A:=A) (n:=n) (c:=c) (j:=i) (z:=z) aS hA (by kernel_rfl) (by kernel_rfl) h4 ⟨rfl,rfl,rfl⟩ hz) (by cases z<;>rfl) ?_
  refine PG (.int .i64 0) (fun α=>⟨[⟨jh z,0,[]⟩],⟨(by cases z<;>kernel_rfl),by kernel_rfl,trivial⟩,.inr (⟨rfl,z,rfl,rfl⟩),af rfl⟩) ?_
  refine PF (.int .i64 0) ?_
  refine PG (.int .i64 ((i+1:Nat):Int)) (fun α=>PM i) ?_
  exact bk fun α=>⟨⟨i+1,by kernel_rfl,by omega⟩,cast (by kernel_rfl) (show n-((i+1:Nat):Int).toNat<n-(i:Int).toNat by omega)⟩
 refine PF (.int .i64 1) ?_
 exact PI (.int .i64 1) rfl
def Pv(K:PZ)(f:FuncId)(xs:List SX.Arg)(v:Value):Prop :=
 (f=119∧∃ (u:Value) (fl:List Fl),xs=[⟨.agg #[.int .i64 3,.int .i64 0,.string ⟨#[]⟩,u],0,[]⟩]∧K u 4 (gn fl)∧fl.length≤1048576∧v=.bool true) ∨
 (f=120∧∃ (u:Value) (fl:List Fl),xs=[⟨.agg #[.int .i64 3,.int .i64 0,.string ⟨#[]⟩,u],0,[]⟩]∧K u 4 (gn fl)∧fl.length≤1048576∧v=.int .i64 1)
def Ng:FuncId→Option SX.Sh:=fun f=>if f=119 then some .one else if f=120 then some .one else none
noncomputable def Ml(K A:PZ):SX.Cx:={ P:=Tryz.prog,R:=Pv,shp:=Ng,K:=K,A:=A }
theorem OK(K A:PZ):(Ml K A).Ok:=by
 refine SX.Cx.bP (fun _=>rfl) ?_
 intro K f xs v W hR hrd hKf
 rcases hR with ⟨rfl,u,fl,rfl,hku,hl,rfl⟩|⟨rfl,u,fl,rfl,hku,hl,rfl⟩
 ·obtain⟨A,n,c,rfl,h2,h3,h4⟩:=jy (hKf u 4 (gn fl) hku)
  exact(GF fl A n c W h2 (by omega) h3).mono fun e w' h=>al rfl h
 obtain⟨A,n,c,rfl,h2,h3,h4⟩:=jy (hKf u 4 (gn fl) hku)
 exact(Gy fl A n c W h2 (by omega) h3).mono fun e w' h=>al rfl h
def tC:SX.Tree :=
(.df (.call 119 [.no]) [(.a [(.i 3),(.i 0),(.k (.string ⟨#[]⟩)),(.q 0)])] .one
(.df .not [(.q 1)] .one
(.br 2 []
(.ret (.i 1) [] [])
(.df (.call 120 [.no]) [(.a [(.i 3),(.i 0),(.k (.string ⟨#[]⟩)),(.q 0)])] .one
(.df (.bin .gtr 3) [(.q 3),(.i 16)] .one
(.br 4 []
(.ret (.i 2) [] [])
(.ret (.i 0) [] [])))))))
def B8:List SX.V:=[.a [.k (.int .i64 3),.k (.int .i64 0),.k (.string ⟨#[]⟩),.x 0 []]]
theorem GV(K A:PZ):PY (Ml K A) ⟨fun f=>true,[],0,100⟩ 91 Tryz.f91 B8 [.one]=tC:=by kernel_rfl
theorem zX(fl:List Fl)(A:Option Addr)(n c:Nat)(w:World)(hr:Rd w 4 A n (gn fl))(hn:n≤1048576)(hc:n≤c):RT 91 #[.agg #[.int .i64 3,.int .i64 0,.string ⟨#[]⟩,.slice A n c]] w (.int .i64 0):=by
 refine PK (GV (fun s sz cells=>s=.slice A n c∧sz=4∧cells=gn fl) P0) [.slice A n c] (OK _ _) Tryz.func91 ?_ ?_
 ·rintro W hW s sz cells ⟨rfl,rfl,rfl⟩;exact⟨hr.aD hW,hc⟩
 have hA:=SX.rd_some hr
 have hln:fl.length=n:=by have:=hr.1;rw [gx]at this;omega
 unfold tC
 refine PG (.bool true) (fun α=>⟨[⟨.agg #[.int .i64 3,.int .i64 0,.string ⟨#[]⟩,.slice A n c],0,[]⟩],PT,.inl ⟨rfl,.slice A n c,fl,rfl,⟨rfl,rfl,rfl⟩,by omega,rfl⟩,af rfl⟩) ?_
 refine PF (.bool false) ?_
 refine PH false (fun h=>nomatch h) (fun _=>?_)
 refine PG (.int .i64 1) (fun α=>⟨[⟨.agg #[.int .i64 3,.int .i64 0,.string ⟨#[]⟩,.slice A n c],0,[]⟩],PT,.inr (⟨rfl,.slice A n c,fl,rfl,⟨rfl,rfl,rfl⟩,by omega,rfl⟩),af rfl⟩) ?_
 refine PF (.bool false) ?_
 refine PH false (fun h=>nomatch h) (fun _=>?_)
 exact PI (.int .i64 0) rfl
def Pw(f:FuncId)(xs:List SX.Arg)(v:Value):Prop :=
 (f=121∧∃ u:Nat,u<18446744073709551616∧xs=[⟨.int .u64 (u:Int),0,[]⟩]∧v=.agg ((bS u).flatMap c8).toArray) ∨
 (f=122∧∃ k:Int,xs=[⟨.int .i64 k,0,[]⟩]∧(-9223372036854775808≤k∧k≤9223372036854775807)∧v=.int .u64 (ey k:Int))
def Nh:FuncId→Option SX.Sh:=fun f=>if f=121 then some (.sl 1)else if f=122 then some .one else none
noncomputable def Kw(K A:PZ):SX.Cx:={ P:=Tryz.prog,R:=fun _=>Pw,shp:=Nh,K:=K,A:=A,bsr:=true }
theorem ML(K A:PZ):(Kw K A).Ok:=by
 refine SX.Cx.bP (fun _=>rfl) ?_
 intro K f xs v W hR hrd hKf
 rcases hR with ⟨rfl,u,hu,rfl,rfl⟩|⟨rfl,k,rfl,⟨h1,h2⟩,rfl⟩
 ·exact(m5 u hu W).mono fun e w' h=>az.uS rfl h
 exact(Hh k W h1 h2).mono fun e w' h=>al rfl h
def tG:SX.Tree :=
(.df (.call 122 [.no]) [(.x 0 [])] .one
(.df (.call 121 [.no]) [(.x 1 [])] (.sl 1)
(.df (.dR 1 1 (.row 1 [(.x 2 [])])) [(.cat [(.a [(.k (.int .u8 1))])]),(.row 2)] .any
(.ret (.row 3) [none,none,none,(some ⟨[(.a [(.k (.int .u8 1))]),(.x 3 [])],5,(.row 1)⟩)] []))))
def Cc:List SX.V:=[.a [.k (.int .i64 1),.x 0 [],.k (.string ⟨#[]⟩),.k (.slice none 0 0)]]
theorem GZ(K A:PZ):PY (Kw K A) ⟨fun f=>true,[],2,100⟩ 92 Tryz.f92 Cc [.one]=tG:=by kernel_rfl
theorem Gz(k:Int)(w:World)(h1 : -9223372036854775808≤k)(h2:k≤9223372036854775807):RS 92 #[.agg #[.int .i64 1,.int .i64 k,.string ⟨#[]⟩,.slice none 0 0]] w 1 ((eA (.n k)).flatMap c8):=by
 refine PK (GZ P0 P0) [.int .i64 k] (ML _ _) Tryz.func92 ?_ ?_
 ·exact fun W _=>cd (fun _ _ _ h=>h) W
 unfold tG
 have hul:=lh h1 h2
 have hlen:=cK 9 (ey k) (by omega)
 refine PG (.int .u64 (ey k:Int)) (fun α=>⟨[⟨.int .i64 k,0,[]⟩],PT,.inr (⟨rfl,k,rfl,⟨h1,h2⟩,rfl⟩),af rfl⟩) ?_
 refine aK (.agg ((bS (ey k)).flatMap c8).toArray) (fun α=>⟨[⟨.int .u64 ((ey k):Int),0,[]⟩],PT,.inl ⟨rfl,(ey k),hul,rfl,rfl⟩,af rfl⟩) (iP _) ?_
 refine aK (.agg ((bS (ey k)).flatMap c8).toArray) (fun α=>av (f:=c8) (l1:=[1#8]) (l2:=bS (ey k)) (fun _=>rfl) vM (by decide) (by kernel_rfl) (nd (by kernel_rfl)) (by simp only [LL];omega) (by simp only [LL];omega)) rfl ?_
 exact aY fun α W _ hrow hS=>⟨hS.below,_,by kernel_rfl,az.row hS (n:=3) (b:=(⟨[(.a [(.k (.int .u8 1))]),(.x 3 [])],5,(.row 1)⟩:ae)) (by kernel_rfl) rfl (hrow 3 _ (by kernel_rfl)) (Eq.trans (b:=[Value.agg #[w8 1#8],Value.agg ((bS (ey k)).flatMap c8).toArray].flatMap aa) (by kernel_rfl) (by simp [aa,c8,eA]))⟩
def tH:SX.Tree :=
(.df (.len true) [(.x 0 [])] .one
(.df (.conv .u64) [(.x 1 [])] .one
(.df (.call 121 [.no]) [(.x 2 [])] (.sl 1)
(.df (.dR 1 1 (.row 1 [(.x 3 [])])) [(.cat [(.a [(.k (.int .u8 2))])]),(.row 6)] .any
(.df (.aps 1) [(.cat [(.a [(.k (.int .u8 2))]),(.x 4 [])]),(.x 0 [])] .any
(.ret (.row 10) [none,none,none,none,none,none,none,none,none,none,(some ⟨[(.a [(.k (.int .u8 2))]),(.x 4 []),(.x 5 [])],5,(.row 1)⟩),none] []))))))
def Cd:List SX.V:=[.a [.k (.int .i64 2),.k (.int .i64 0),.x 0 [],.k (.slice none 0 0)]]
theorem G0(K A:PZ):PY (Kw K A) ⟨fun f=>true,[],2,100⟩ 92 Tryz.f92 Cd [.one]=tH:=by kernel_rfl
theorem GA(b:ByteArray)(w:World)(hb:b.size≤1048576):RS 92 #[.agg #[.int .i64 2,.int .i64 0,.string b,.slice none 0 0]] w 1 ((eA (.s b)).flatMap c8):=by
 refine PK (G0 P0 P0) [.string b] (ML _ _) Tryz.func92 ?_ ?_
 ·exact fun W _=>cd (fun _ _ _ h=>h) W
 unfold tH
 have hlen:=cK 9 b.size (by omega)
 have hcl:∀ l:List W8,(l.flatMap c8).length=l.length:=fun l=>by induction l with
  | nil=>rfl
  | cons a l ih=>simp only [List.flatMap_cons,List.length_append,aF,List.length_cons,ih];omega
 refine PF (.int .i64 (b.size:Int)) ?_
 refine PG (.int .u64 (b.size:Int)) (fun α=>Eq.trans (b:=some (.int .u64 (IntKind.u64.wrap (b.size:Int)))) (by kernel_rfl) (by rw [ez];congr 2;omega)) ?_
 refine aK (.agg ((bS b.size).flatMap c8).toArray) (fun α=>⟨[⟨.int .u64 (b.size:Int),0,[]⟩],PT,.inl ⟨rfl,b.size,by omega,rfl,rfl⟩,af rfl⟩) (iP _) ?_
 refine aK (.agg ((bS b.size).flatMap c8).toArray) (fun α=>av (f:=c8) (l1:=[2#8]) (l2:=bS b.size) (fun _=>rfl) vM (by decide) (by kernel_rfl) (nd (by kernel_rfl)) (by simp only [LL];omega) (by simp only [LL];omega)) rfl ?_
 have hcc:[Value.agg #[w8 2#8],Value.agg ((bS b.size).flatMap c8).toArray].flatMap aa=([2#8]++bS b.size).flatMap c8:=by simp [aa,c8]
 refine aK (Value.agg ((sb b).flatMap c8).toArray) (fun α=>⟨b,by kernel_rfl,?_,?_,by rw [na]⟩) rfl ?_
 ·rw [show aa _=(([2#8]++bS b.size).flatMap c8) from Eq.trans (b:=[Value.agg #[w8 2#8],Value.agg ((bS b.size).flatMap c8).toArray].flatMap aa) (by kernel_rfl) hcc,hcl];simp only [LL];omega
 ·rw [show aa _=(([2#8]++bS b.size).flatMap c8) from Eq.trans (b:=[Value.agg #[w8 2#8],Value.agg ((bS b.size).flatMap c8).toArray].flatMap aa) (by kernel_rfl) hcc,hcl];simp only [LL];omega
 exact aY fun α W _ hrow hS=>⟨hS.below,_,by kernel_rfl,az.row hS (n:=10) (b:=(⟨[(.a [(.k (.int .u8 2))]),(.x 4 []),(.x 5 [])],5,(.row 1)⟩:ae)) (by kernel_rfl) rfl (hrow 10 _ (by kernel_rfl)) (Eq.trans (b:=[Value.agg #[w8 2#8],Value.agg ((bS b.size).flatMap c8).toArray,Value.agg ((sb b).flatMap c8).toArray].flatMap aa) (by kernel_rfl) (by simp [aa,c8,eA]))⟩
def Px(f:FuncId)(xs:List SX.Arg)(v:Value):Prop :=
 (f=121∧∃ u:Nat,u<18446744073709551616∧xs=[⟨.int .u64 (u:Int),0,[]⟩]∧v=.agg ((bS u).flatMap c8).toArray) ∨
 (f=92∧∃ z:Fl,z.fits∧xs=[⟨jh z,0,[]⟩]∧v=.agg ((eA z).flatMap c8).toArray)
def Ni:FuncId→Option SX.Sh:=fun f=>if f=121 then some (.sl 1)else if f=92 then some (.sl 1)else none
noncomputable def Mm(K A:PZ):SX.Cx:={ P:=Tryz.prog,R:=fun _=>Px,shp:=Ni,K:=K,A:=A,bsr:=true }
theorem OL(K A:PZ):(Mm K A).Ok:=by
 refine SX.Cx.bP (fun _=>rfl) ?_
 intro K f xs v W hR hrd hKf
 rcases hR with ⟨rfl,u,hu,rfl,rfl⟩|⟨rfl,z,hz,rfl,rfl⟩
 ·exact(m5 u hu W).mono fun e w' h=>az.uS rfl h
 cases z with
 | n k=>exact(Gz k W hz.1 hz.2).mono fun e w' h=>az.uS rfl h
 | s b=>exact(GA b W hz).mono fun e w' h=>az.uS rfl h
def tI:SX.Tree :=
(.df (.len false) [(.x 0 [])] .one
(.df (.conv .u64) [(.x 1 [])] .one
(.df (.call 121 [.no]) [(.x 2 [])] (.sl 1)
(.df (.dR 1 1 (.row 1 [(.x 3 [])])) [(.cat [(.a [(.k (.int .u8 3))])]),(.row 2)] .any
(.loop [(.k (.int .i64 0)),(.cat [(.a [(.k (.int .u8 3))]),(.x 4 [])])] [.one,.any]
(.df (.len false) [(.x 0 [])] .one
(.df (.bin .lss 3) [(.x 5 []),(.x 7 [])] .one
(.br 8 []
(.df .bnd [(.x 0 []),(.x 5 [])] .one
(.df (.elems 4 0 4) [(.x 0 []),(.x 5 [])] (.ag 4)
(.df (.call 92 [.no]) [(.a [(.x 10 [0]),(.x 10 [1]),(.x 10 [2]),(.x 10 [3])])] (.sl 1)
(.df (.dR 1 1 (.row 1 [(.x 11 [])])) [(.cat [(.x 6 [])]),(.row 6)] .any
(.df (.bin .add 3) [(.x 5 []),(.k (.int .i64 1))] .one
(.again 0 [(.x 13 []),(.cat [(.x 6 []),(.x 12 [])])]))))))
(.ret (.row 5) [none,none,none,none,none,(some ⟨[(.x 6 [])],5,(.row 1)⟩)] [])))))))))
def Ce:List SX.V:=[.a [.k (.int .i64 3),.k (.int .i64 0),.k (.string ⟨#[]⟩),.x 0 []]]
theorem G1(K A:PZ):PY (Mm K A) ⟨fun f=>f != 92,[⟨92,8,[(.s 4,.one),(.s 3,.row 1 5)]⟩],2,100⟩ 92 Tryz.f92 Ce [.one]=tI:=by kernel_rfl
theorem GB(fl:List Fl)(A:Option Addr)(n c:Nat)(w:World)(hr:Rd w 4 A n (gn fl))(hn:n≤1048576)(hc:n≤c)(hfit:∀ z∈fl,z.fits):RS 92 #[.agg #[.int .i64 3,.int .i64 0,.string ⟨#[]⟩,.slice A n c]] w 1 ((aI fl).flatMap c8):=by
 refine PK (G1 (fun s sz cells=>s=.slice A n c∧sz=4∧cells=gn fl) P0) [.slice A n c] (OL _ _) Tryz.func92 ?_ ?_
 ·rintro W hW s sz cells ⟨rfl,rfl,rfl⟩;exact⟨hr.aD hW,hc⟩
 have hA:=SX.rd_some hr
 have hln:fl.length=n:=by have:=hr.1;rw [gx]at this;omega
 have hN:=cK 9 n (by omega)
 unfold tI
 refine PF (.int .i64 (n:Int)) ?_
 refine PG (.int .u64 (n:Int)) (fun α=>Eq.trans (b:=some (.int .u64 (IntKind.u64.wrap (n:Int)))) (by kernel_rfl) (by rw [ez];congr 2;omega)) ?_
 refine aK (.agg ((bS n).flatMap c8).toArray) (fun α=>⟨[⟨.int .u64 (n:Int),0,[]⟩],PT,.inl ⟨rfl,n,by omega,rfl,rfl⟩,af rfl⟩) (iP _) ?_
 refine aK (.agg ((bS n).flatMap c8).toArray) (fun α=>av (f:=c8) (l1:=[3#8]) (l2:=bS n) (fun _=>rfl) vM (by decide) (by kernel_rfl) (nd (by kernel_rfl)) (by simp only [LL];omega) (by simp only [LL];omega)) rfl ?_
 refine bC (fun xs=>∃ (i:Nat),xs=[.int .i64 (i:Int),.agg (([3#8]++bS n++(fl.take i).flatMap eA).flatMap c8).toArray]∧i≤n) (fun xs=>match xs with|.int _ i::_=>n-i.toNat|_=>0) (fun α=>⟨0,Eq.trans (b:=[.int .i64 0,.agg ([Value.agg #[w8 3#8],Value.agg ((bS n).flatMap c8).toArray].flatMap aa).toArray]) (by kernel_rfl) (by simp [aa,c8]),by omega⟩) ?_
 rintro xs-⟨i,rfl,hin⟩
 have hEl:=pW (l:=fl.take i) (fun z hz=>hfit z (List.mem_of_mem_take hz))
 have hEi:(fl.take i).length≤n:=by rw [List.length_take];omega
 obtain⟨acc,hacc⟩:∃ acc,[3#8]++bS n++(fl.take i).flatMap eA=acc:=⟨_,rfl⟩
 have hal:acc.length≤1099600000000:=by
  rw [← hacc];simp only [LL];omega
 rw [hacc]
 refine PF (.int .i64 (n:Int)) ?_
 refine PF (.bool (decide ((i:Int)<(n:Int)))) ?_
 refine PH (decide ((i:Int)<(n:Int))) (fun h4=>?_) (fun h4=>?_)
 ·have h4:i<n:=by have:=of_decide_eq_true h4;omega
  obtain⟨z,hz⟩:∃ z,fl[i]?=some z:=⟨_,List.getElem?_eq_getElem (by omega)⟩
  have hzf:=hfit z (List.mem_of_getElem? hz)
  have hzl:=wS hzf
  have htk:[3#8]++bS n++(fl.take (i+1)).flatMap eA=acc++eA z:=by rw [List.take_add_one,hz,← hacc];simp
  refine PQ A n c i hA h4 ?_
  refine aK (jh z) (fun α=>gL (f:=aH) (l:=fl) (A:=A) (n:=n) (c:=c) (j:=i) (z:=z) aS hA (by kernel_rfl) (by kernel_rfl) h4 ⟨rfl,rfl,rfl⟩ hz) (by cases z<;>rfl) ?_
  refine aK (.agg ((eA z).flatMap c8).toArray) (fun α=>⟨[⟨jh z,0,[]⟩],⟨(by cases z<;>kernel_rfl),by kernel_rfl,trivial⟩,.inr (⟨rfl,z,hzf,rfl,rfl⟩),af rfl⟩) (iP _) ?_
  refine aK (.agg ((eA z).flatMap c8).toArray) (fun α=>av (f:=c8) (l1:=acc) (l2:=eA z) (fun _=>rfl) vM (by decide) (bq (by kernel_rfl)) (nd (by kernel_rfl)) (by omega) (by omega)) rfl ?_
  refine PG (.int .i64 ((i+1:Nat):Int)) (fun α=>PM i) ?_
  exact bk fun α=>⟨⟨i+1,Eq.trans (b:=[.int .i64 ((i+1:Nat):Int),.agg ([Value.agg (acc.flatMap c8).toArray,Value.agg ((eA z).flatMap c8).toArray].flatMap aa).toArray]) (by kernel_rfl) (by rw [htk];simp [aa]),by omega⟩,cast (by kernel_rfl) (show n-((i+1:Nat):Int).toNat<n-(i:Int).toNat by omega)⟩
 have h4:i=n:=by have:=of_decide_eq_false h4;omega
 have he:acc=aI fl:=by rw [← hacc,List.take_of_length_le (by omega)];unfold aI;rw [hln];simp
 rw [← he]
 exact aY fun α W _ hrow hS=>⟨hS.below,_,by kernel_rfl,az.row hS (n:=5) (b:=(⟨[(.x 6 [])],5,(.row 1)⟩:ae)) (by kernel_rfl) rfl (hrow 5 _ (by kernel_rfl)) (Eq.trans (b:=[Value.agg (acc.flatMap c8).toArray].flatMap aa) (by kernel_rfl) (by simp [aa]))⟩
def Py(K:PZ)(f:FuncId)(xs:List SX.Arg)(v:Value):Prop :=
 (f=91∧∃ (u:Value) (fl:List Fl),xs=[⟨.agg #[.int .i64 3,.int .i64 0,.string ⟨#[]⟩,u],0,[]⟩]∧K u 4 (gn fl)∧fl.length≤1048576∧(∀ z∈fl,z.fits)∧v=.int .i64 0) ∨
 (f=92∧∃ (u:Value) (fl:List Fl),xs=[⟨.agg #[.int .i64 3,.int .i64 0,.string ⟨#[]⟩,u],0,[]⟩]∧K u 4 (gn fl)∧fl.length≤1048576∧(∀ z∈fl,z.fits)∧v=.agg ((aI fl).flatMap c8).toArray)
def Nj:FuncId→Option SX.Sh:=fun f=>if f=91 then some .one else if f=92 then some (.sl 1)else none
noncomputable def Mn(K A:PZ):SX.Cx:={ P:=Tryz.prog,R:=Py,shp:=Nj,K:=K,A:=A }
theorem OM(K A:PZ):(Mn K A).Ok:=by
 refine SX.Cx.bP (fun _=>rfl) ?_
 intro K f xs v W hR hrd hKf
 rcases hR with ⟨rfl,u,fl,rfl,hku,hl,hfit,rfl⟩|⟨rfl,u,fl,rfl,hku,hl,hfit,rfl⟩
 ·obtain⟨A,n,c,rfl,h2,h3,h4⟩:=jy (hKf u 4 (gn fl) hku)
  exact(zX fl A n c W h2 (by omega) h3).mono fun e w' h=>al rfl h
 obtain⟨A,n,c,rfl,h2,h3,h4⟩:=jy (hKf u 4 (gn fl) hku)
 exact(GB fl A n c W h2 (by omega) h3 hfit).mono fun e w' h=>az.uS rfl h
def tJ:SX.Tree :=
(.df (.call 91 [.no]) [(.a [(.k (.int .i64 3)),(.k (.int .i64 0)),(.k (.string ⟨#[]⟩)),(.x 0 [])])] .one
(.df (.bin .neq 32) [(.x 1 []),(.k (.int .i64 0))] .one
(.br 2 []
(.ret (.t [(.k (.slice none 0 0)),(.x 1 [])]) [none] [])
(.df (.call 92 [.no]) [(.a [(.k (.int .i64 3)),(.k (.int .i64 0)),(.k (.string ⟨#[]⟩)),(.x 0 [])])] (.sl 1)
(.ret (.t [(.row 1),(.k (.int .i64 0))]) [none,(some ⟨[(.x 3 [])],0,(.ext 1)⟩)] [])))))
def Cf:List SX.V:=[.a [.k (.int .i64 3),.k (.int .i64 0),.k (.string ⟨#[]⟩),.x 0 []]]
theorem G2(K A:PZ):PY (Mn K A) ⟨fun f=>true,[],2,100⟩ 57 Tryz.f57 Cf [.one]=tJ:=by kernel_rfl
theorem kx(fl:List Fl)(A:Option Addr)(n c:Nat)(w:World)(hr:Rd w 4 A n (gn fl))(hn:n≤1048576)(hc:n≤c)(hfit:∀ z∈fl,z.fits):Calls Tryz.prog 57 #[.agg #[.int .i64 3,.int .i64 0,.string ⟨#[]⟩,.slice A n c]] w fun e w'=>Below w.heap.size w w'∧∃ hdr,e=.returned (.tuple #[hdr,.int .i64 0])∧az w w' [] hdr 1 ((aI fl).flatMap c8):=by
 refine PK (G2 (fun s sz cells=>s=.slice A n c∧sz=4∧cells=gn fl) P0) [.slice A n c] (OM _ _) Tryz.func57 ?_ ?_
 ·rintro W hW s sz cells ⟨rfl,rfl,rfl⟩;exact⟨hr.aD hW,hc⟩
 have hA:=SX.rd_some hr
 have hln:fl.length=n:=by have:=hr.1;rw [gx]at this;omega
 unfold tJ
 refine PG (.int .i64 0) (fun α=>⟨[⟨.agg #[.int .i64 3,.int .i64 0,.string ⟨#[]⟩,.slice A n c],0,[]⟩],PT,.inl ⟨rfl,.slice A n c,fl,rfl,⟨rfl,rfl,rfl⟩,by omega,hfit,rfl⟩,af rfl⟩) ?_
 refine PF (.bool false) ?_
 refine PH false (fun h=>nomatch h) (fun _=>?_)
 refine aK (.agg ((aI fl).flatMap c8).toArray) (fun α=>⟨[⟨.agg #[.int .i64 3,.int .i64 0,.string ⟨#[]⟩,.slice A n c],0,[]⟩],PT,.inr (⟨rfl,.slice A n c,fl,rfl,⟨rfl,rfl,rfl⟩,by omega,hfit,rfl⟩),af rfl⟩) (iP _) ?_
 exact aY fun α W _ hR hS=>⟨hS.below,(α 1).h,by kernel_rfl,az.wV hS (n:=1) (b:=(⟨[(.x 3 [])],0,(.ext 1)⟩:ae)) (by kernel_rfl) rfl (hR 1 _ (by kernel_rfl)) (Eq.trans (b:=[Value.agg ((aI fl).flatMap c8).toArray].flatMap aa) (by kernel_rfl) (by simp [aa])) (fun W2 s z xs hk=>nomatch hk) (fun B s z xs hk=>nomatch hk)⟩
def pL:List SX.V:=[.x 0 [],.x 1 []]
def me:SX.Tree :=
(.df (.call 54 [.no,(.ext 1)]) [(.q 0),(.q 1)] (.ag 32)
(.df (.conv .i64) [(.x 2 [0])] .one
(.df (.bin .rem 3) [(.q 3),(.i 128)] .one
(.df (.bin .mul 3) [(.q 4),(.i 256)] .one
(.df (.conv .i64) [(.x 2 [1])] .one
(.df (.bin .add 3) [(.q 5),(.q 6)] .one
(.df (.bin .mul 3) [(.q 7),(.i 256)] .one
(.df (.conv .i64) [(.x 2 [2])] .one
(.df (.bin .add 3) [(.q 8),(.q 9)] .one
(.df (.bin .mul 3) [(.q 10),(.i 256)] .one
(.df (.conv .i64) [(.x 2 [3])] .one
(.df (.bin .add 3) [(.q 11),(.q 12)] .one
(.df (.bin .mul 3) [(.q 13),(.i 256)] .one
(.df (.conv .i64) [(.x 2 [4])] .one
(.df (.bin .add 3) [(.q 14),(.q 15)] .one
(.df (.bin .mul 3) [(.q 16),(.i 256)] .one
(.df (.conv .i64) [(.x 2 [5])] .one
(.df (.bin .add 3) [(.q 17),(.q 18)] .one
(.df (.bin .mul 3) [(.q 19),(.i 256)] .one
(.df (.conv .i64) [(.x 2 [6])] .one
(.df (.bin .add 3) [(.q 20),(.q 21)] .one
(.df (.bin .mul 3) [(.q 22),(.i 256)] .one
(.df (.conv .i64) [(.x 2 [7])] .one
(.df (.bin .add 3) [(.q 23),(.q 24)] .one
(.df (.bin .rem 3) [(.q 25),(.i 1073741789)] .one
(.ret (.q 26) [] []))))))))))))))))))))))))))
theorem Ed(K A:PZ):PY (N2 K A) ⟨fun _=>true,[],0,100⟩ 61 Tryz.f61 pL [.one,.one]=me:=by kernel_rfl
theorem jz{a b d:Nat}(h:a+b=d)(ha:d<2 ^ 63):aR .add (.int .i64 (a:Int)) (.int .i64 (b:Int))=some (.int .i64 (d:Int)):=by
 simp only [aR,mm,if_true]
 rw [wrap_i64 (by omega) (by omega)]
 congr 2
 omega
theorem tf(s:ByteArray)(l:List W8)(hs:s.size<2 ^ 44)(hl:l.length<2 ^ 44)(A:Option Addr)(n c:Nat)(w:World)(hr:Rd w 1 A n (l.flatMap c8))(hc:n≤c):RT 61 #[.string s,.slice A n c] w (.int .i64 (mL (jM (sb s) l):Int)):=by
 refine b7 (C:=N2 (fun v z xs=>v=.slice A n c∧z=1∧xs=l.flatMap c8) P0) (G:=⟨fun _=>true,[],0,100⟩) (args:=pL) (sh:=[.one,.one]) (ρ:=[.string s,.slice A n c]) 100000 me (Ku _ _) Tryz.func61 rfl (cast (by kernel_rfl) (Ed (fun v z xs=>v=.slice A n c∧z=1∧xs=l.flatMap c8) P0)) (by kernel_rfl) (by kernel_rfl) (by kernel_rfl) (fun W hW v z xs ⟨h1,h2,h3⟩=>by subst h1;subst h2;subst h3;exact⟨hr.aD hW,hc⟩) ?_
 unfold me
 obtain⟨g,hg⟩:=sV (n:=32) (jM (sb s) l) rfl
 refine PG (.agg (((List.range 32).map g).flatMap c8).toArray) (fun α=>by rw [← hg];exact⟨[⟨.string s,0,[]⟩,⟨.slice A n c,1,l.flatMap c8⟩],⟨by kernel_rfl,by kernel_rfl,by kernel_rfl,by kernel_rfl,⟨rfl,rfl,rfl⟩,trivial⟩,⟨rfl,s,_,l,rfl,hs,hl,rfl⟩,af rfl⟩) ?_
 have l0:=(g 0).isLt
 have l1:=(g 1).isLt
 have l2:=(g 2).isLt
 have l3:=(g 3).isLt
 have l4:=(g 4).isLt
 have l5:=(g 5).isLt
 have l6:=(g 6).isLt
 have l7:=(g 7).isLt
 obtain⟨n0,hn0⟩:∃ z,z=(g 0).toNat % 128:=⟨_,rfl⟩
 obtain⟨n1,hn1⟩:∃ z,z=n0*256+(g 1).toNat:=⟨_,rfl⟩
 obtain⟨n2,hn2⟩:∃ z,z=n1*256+(g 2).toNat:=⟨_,rfl⟩
 obtain⟨n3,hn3⟩:∃ z,z=n2*256+(g 3).toNat:=⟨_,rfl⟩
 obtain⟨n4,hn4⟩:∃ z,z=n3*256+(g 4).toNat:=⟨_,rfl⟩
 obtain⟨n5,hn5⟩:∃ z,z=n4*256+(g 5).toNat:=⟨_,rfl⟩
 obtain⟨n6,hn6⟩:∃ z,z=n5*256+(g 6).toNat:=⟨_,rfl⟩
 obtain⟨n7,hn7⟩:∃ z,z=n6*256+(g 7).toNat:=⟨_,rfl⟩
 refine PJ (.int .i64 ((g 0).toNat:Int)) (dh (g 0)) ?_
 refine PJ (.int .i64 (n0:Int)) (show aR .rem (.int .i64 ((g 0).toNat:Int)) (.int .i64 128)=some (.int .i64 (n0:Int)) from by rw [Lb,hn0]) ?_
 refine PJ (.int .i64 ((n0*256:Nat):Int)) (lW n0 (by omega)) ?_
 refine PJ (.int .i64 ((g 1).toNat:Int)) (dh (g 1)) ?_
 refine PJ (.int .i64 (n1:Int)) (jz (a:=n0*256) (b:=(g 1).toNat) (d:=n1) (by omega) (by omega)) ?_
 refine PJ (.int .i64 ((n1*256:Nat):Int)) (lW n1 (by omega)) ?_
 refine PJ (.int .i64 ((g 2).toNat:Int)) (dh (g 2)) ?_
 refine PJ (.int .i64 (n2:Int)) (jz (a:=n1*256) (b:=(g 2).toNat) (d:=n2) (by omega) (by omega)) ?_
 refine PJ (.int .i64 ((n2*256:Nat):Int)) (lW n2 (by omega)) ?_
 refine PJ (.int .i64 ((g 3).toNat:Int)) (dh (g 3)) ?_
 refine PJ (.int .i64 (n3:Int)) (jz (a:=n2*256) (b:=(g 3).toNat) (d:=n3) (by omega) (by omega)) ?_
 refine PJ (.int .i64 ((n3*256:Nat):Int)) (lW n3 (by omega)) ?_
 refine PJ (.int .i64 ((g 4).toNat:Int)) (dh (g 4)) ?_
 refine PJ (.int .i64 (n4:Int)) (jz (a:=n3*256) (b:=(g 4).toNat) (d:=n4) (by omega) (by omega)) ?_
 refine PJ (.int .i64 ((n4*256:Nat):Int)) (lW n4 (by omega)) ?_
 refine PJ (.int .i64 ((g 5).toNat:Int)) (dh (g 5)) ?_
 refine PJ (.int .i64 (n5:Int)) (jz (a:=n4*256) (b:=(g 5).toNat) (d:=n5) (by omega) (by omega)) ?_
 refine PJ (.int .i64 ((n5*256:Nat):Int)) (lW n5 (by omega)) ?_
 refine PJ (.int .i64 ((g 6).toNat:Int)) (dh (g 6)) ?_
 refine PJ (.int .i64 (n6:Int)) (jz (a:=n5*256) (b:=(g 6).toNat) (d:=n6) (by omega) (by omega)) ?_
 refine PJ (.int .i64 ((n6*256:Nat):Int)) (lW n6 (by omega)) ?_
 refine PJ (.int .i64 ((g 7).toNat:Int)) (dh (g 7)) ?_
 refine PJ (.int .i64 (n7:Int)) (jz (a:=n6*256) (b:=(g 7).toNat) (d:=n7) (by omega) (by omega)) ?_
 refine PJ (.int .i64 ((n7 % 1073741789:Nat):Int)) (MU n7) ?_
 have hN:mL (jM (sb s) l)=n7 % 1073741789:=by rw [hg];subst hn7 hn6 hn5 hn4 hn3 hn2 hn1 hn0;rfl
 exact aY fun α W _ _ hS=>jH (x:=.int .i64 ((n7 % 1073741789:Nat):Int)) hS (by kernel_rfl) (by rw [hN])
end Go.Proofs.YtidekfgkpindbaaGreatDoor
namespace Go.Proofs.YtidekfgkpindbaaGreatDoor
open Go.RowKit SX
def LD(a n:Nat)(x m c:Value):Prop:=∃ x' m' c':Nat,Jac.vX a n c' x' m'∧m'≤n∧x=.int .i64 x'∧m=.int .i64 m'∧c=.int .i64 c'
set_option maxHeartbeats 400000 in
theorem DA(a n:Nat)(w:World)(h:a<2147483579)(hn:n≤9223372036854775807) :
 Calls Tryz.prog 93 #[.int .i64 a,.int .i64 n] w fun e w'=>e=.returned (.int .i64 (Jac.pm a n))∧w=w':=by
 go_enter Tryz.func93,Tryz.ntmps93
 go_wp2
 go_loop [0,1,5] (fun u v z=>LD a n u v z) (fun _ v _=>(intOf v).toNat)
 case atStart=>exact⟨a,n,1,Jac.qv h,Nat.le_refl _,rfl,rfl,rfl⟩
 case round =>
  obtain⟨x,m,c,hi,hmn,rfl,rfl,rfl⟩:=hrel
  have hc:=hi.1
  have hx:=hi.2.1
  have HI:=Lib.hid hi
  clear hi
  have b1:c*x≤2147483578*2147483578:=Nat.mul_le_mul (by omega) (by omega)
  have b2:x*x≤2147483578*2147483578:=Nat.mul_le_mul (by omega) (by omega)
  by_cases h0:0<m
  ·go_wp2
   all_goals simp only [beq_iff_eq,beq_eq_false_iff_ne,ne_eq]at *
   ·exact⟨⟨_,_,_,Jac.xG HI.out (by omega),by omega,rfl,rfl,rfl⟩,by simp [intOf];omega⟩
   exact⟨⟨_,_,_,Jac.s7 HI.out (by omega),by omega,rfl,rfl,rfl⟩,by simp [intOf];omega⟩
  go_wp2
  obtain rfl:m=0:=by omega
  go_ret
  exact⟨vd (by rw [Jac.xF HI.out]),rfl⟩
theorem s9(a n:Int)(w:World)(h0:0≤a)(h:a<2147483579)(hn:0≤n)(hn':n≤9223372036854775807) :
 Calls Tryz.prog 93 #[.int .i64 a,.int .i64 n] w fun e w'=>e=.returned (.int .i64 (Jac.pm a.toNat n.toNat))∧w=w':=by
 have:=DA a.toNat n.toNat w (by omega) (by omega)
 rwa [Int.toNat_of_nonneg h0,Int.toNat_of_nonneg hn]at this
theorem jK(x:Int)(w:World) :
 Calls Tryz.prog 72 #[.int .i64 x] w fun e w'=>e=.returned (.bool (Jac.eU x))∧w=w':=by
 by_cases h:x<1∨2147483579≤x
 ·have hv:Hid (Jac.eU x=false):=Lib.hid (Jac.vD (by omega))
  rcases h with h|h
  ·go_enter Tryz.func72,Tryz.ntmps72
   go_wp2
   go_ret
   exact⟨gW hv.out.symm,rfl⟩
  go_enter Tryz.func72,Tryz.ntmps72
  go_wp2
  go_ret
  exact⟨gW hv.out.symm,rfl⟩
 have hv:=Lib.hid (Jac.HT (x:=x) (by omega) (by omega))
 go_enter Tryz.func72,Tryz.ntmps72
 go_wp2_with (go_at_call 93;refine(s9 _ _ _ (by omega) (by omega) (by omega) (by omega)).mono ?_;rintro e w' ⟨rfl,rfl⟩)
 go_ret
 exact⟨gW (by rw [hv.out];rfl),rfl⟩
theorem uy(n:Int)(w:World) :
 Calls Tryz.prog 94 #[.int .i64 n] w fun e w'=>e=.returned (.int .i64 (Jac.vN n))∧w=w':=by
 have h1:=Int.tmod_lt_of_pos n (b:=1073741789) (by omega)
 have h2:=Jac.nh n
 have HR:=Lib.hid (Jac.zY n)
 go_enter Tryz.func94,Tryz.ntmps94
 go_wp2
 ·go_ret
  exact⟨vd (by rw [HR.out,if_pos (by assumption)]),rfl⟩
 go_ret
 exact⟨vd (by rw [HR.out,if_neg (by omega)]),rfl⟩
theorem GG(a b:Int)(w:World) :
 Calls Tryz.prog 101 #[.int .i64 a,.int .i64 b] w fun e w'=>e=.returned (.tuple #[.int .i64 (Jac.eC a b),.int .i64 (Jac.eL a b)])∧w=w':=by
 rcases Jac.sY a b with ⟨ha,hm⟩|⟨ha,hb,hm⟩|⟨ha,hb,ba,bb,bm,hm⟩
 all_goals
  have HM:=Lib.hid hm
  clear hm
  try (have ba1:=ba.1;have ba2:=ba.2;have bb1:=bb.1;have bb2:=bb.2)
  go_enter Tryz.func101,Tryz.ntmps101
  go_wp2_with (go_at_call 72;refine(jK _ _).mono ?_;rintro e w' ⟨rfl,rfl⟩)
  go_ret2
  exact⟨qJ HM.out.1.symm HM.out.2.symm,rfl⟩
theorem xS(a n:Int)(w:World) :
 Calls Tryz.prog 62 #[.int .i64 a,.int .i64 n] w fun e w'=>e=.returned (.tuple #[.int .i64 (Jac.ap a n),.int .i64 (Jac.eL a a)])∧w=w':=by
 have hr:=Jac.l9 n
 have hr1:=hr.1
 have hr2:=hr.2
 clear hr
 rcases Jac.nU a n with ⟨ha,hm⟩|⟨ha,ba1,ba2,hm⟩
 all_goals
  have HM:=Lib.hid hm
  clear hm
  go_enter Tryz.func62,Tryz.ntmps62
  go_wp2_with (first|(go_at_call 72;refine(jK _ _).mono ?_;rintro e w' ⟨rfl,rfl⟩)|(go_at_call 94;refine(uy _ _).mono ?_;rintro e w' ⟨rfl,rfl⟩)|(go_at_call 93;refine(s9 _ _ _ (by omega) (by omega) (by omega) (by omega)).mono ?_;rintro e w' ⟨rfl,rfl⟩))
  go_ret2
  exact⟨qJ HM.out.1.symm HM.out.2.symm,rfl⟩
theorem yh{secret:Int}{tx:ByteArray}(h:secret<1∨1073741789≤secret):cx secret tx=(0,0,110):=by unfold cx;rw [if_pos h]
def gh(n:Int):Int:=n % 1073741789
theorem BA(n:Int):0≤gh n∧gh n<1073741789:=by unfold gh;omega
theorem MV(x:Int):aR .rem (.int .i64 x) (.int .i64 1073741789)=some (.int .i64 (x.tmod 1073741789)):=by
 simp only [aR,if_true]
 rw [if_neg (by decide)]
theorem uO(n:Int):gh n=if n.tmod 1073741789<0 then n.tmod 1073741789+1073741789 else n.tmod 1073741789:=Jac.zY n
def yr:SX.Tree :=
(.df (.bin .rem 3) [(.q 0),(.i 1073741789)] .one
(.df (.bin .lss 3) [(.q 1),(.i 0)] .one
(.br 2 []
(.df (.bin .add 3) [(.q 1),(.i 1073741789)] .one
(.ret (.q 3) [] []))
(.ret (.q 1) [] []))))
def E1:List SX.V:=[.x 0 []]
theorem Jp(K A:PZ):PY (rW K A) ⟨fun f=>true,[],0,100⟩ 95 Tryz.f95 E1 [.one]=yr:=by kernel_rfl
theorem I4(n:Int)(w:World)  : RT 95 #[.int .i64 n] w (.int .i64 (gh n)):=by
 refine PK (Jp P0 P0) [.int .i64 n] (eJ _ _) Tryz.func95 ?_ ?_
 ·exact fun W _=>cd (fun _ _ _ h=>h) W
 have t1:=Jac.nh n
 have t2:=Int.tmod_lt_of_pos n (b:=1073741789) (by omega)
 unfold yr
 refine PG (.int .i64 ((n.tmod 1073741789))) (fun α=>Eq.trans (b:=aR .rem (.int .i64 n) (.int .i64 1073741789)) (by kernel_rfl) (MV n)) ?_
 refine PF (.bool (decide ((n.tmod 1073741789)<0))) ?_
 refine PH (decide ((n.tmod 1073741789)<0)) (fun h2=>?_) (fun h2=>?_)
 ·try simp only [aJ]at h2
  refine PG (.int .i64 (((n.tmod 1073741789))+1073741789)) (fun α=>PL (((n.tmod 1073741789))+1073741789)) ?_
  exact PI (.int .i64 (((n.tmod 1073741789))+1073741789)) (by rw [uO];split<;>first|rfl|omega)
 try simp only [aJ]at h2
 exact PI (.int .i64 ((n.tmod 1073741789))) (by rw [uO];split<;>first|rfl|omega)
def Pj(f:FuncId)(xs:List SX.Arg)(v:Value):Prop :=
 (f=95∧∃ n:Int,xs=[⟨.int .i64 n,0,[]⟩]∧v=.int .i64 (gh n))
def M7:FuncId→Option SX.Sh:=fun f=>if f=95 then some .one else none
noncomputable def Mf(K A:PZ):SX.Cx:={ P:=Tryz.prog,R:=fun _=>Pj,shp:=M7,K:=K,A:=A }
theorem OD(K A:PZ):(Mf K A).Ok:=by
 refine SX.Cx.bP (fun _=>rfl) ?_
 intro K f xs v W hR hrd hKf
 rcases hR with ⟨rfl,n,rfl,rfl⟩
 exact(I4 n W).mono fun e w' h=>al rfl h
def oV:SX.Tree :=
(.df (.call 95 [.no]) [(.q 0)] .one
(.df (.call 95 [.no]) [(.q 1)] .one
(.df (.bin .mul 3) [(.q 2),(.q 3)] .one
(.df (.bin .rem 3) [(.q 4),(.i 1073741789)] .one
(.ret (.q 5) [] [])))))
def wC:List SX.V:=[.x 0 [],.x 1 []]
theorem Az(K A:PZ):PY (Mf K A) ⟨fun f=>true,[],0,100⟩ 64 Tryz.f64 wC [.one,.one]=oV:=by kernel_rfl
theorem qM(a b:Int)(w:World)  : RT 64 #[.int .i64 a,.int .i64 b] w (.int .i64 (gh a*gh b % 1073741789)):=by
 refine PK (Az P0 P0) [.int .i64 a,.int .i64 b] (OD _ _) Tryz.func64 ?_ ?_
 ·exact fun W _=>cd (fun _ _ _ h=>h) W
 have m1:=BA a
 have m2:=BA b
 unfold oV
 refine PG (.int .i64 ((gh a))) (fun α=>⟨[⟨.int .i64 a,0,[]⟩],PT,⟨rfl,_,rfl,rfl⟩,af rfl⟩) ?_
 refine PG (.int .i64 ((gh b))) (fun α=>⟨[⟨.int .i64 b,0,[]⟩],PT,⟨rfl,_,rfl,rfl⟩,af rfl⟩) ?_
 refine PG (.int .i64 (gh a*gh b)) (fun α=>Eq.trans (b:=some (.int .i64 (IntKind.i64.wrap (gh a*gh b)))) (by kernel_rfl) (by have:=xw m1.1 m1.2 m2.1 m2.2;rw [wrap_i64 (by omega) (by omega)])) ?_
 refine PG (.int .i64 ((gh a*gh b) % 1073741789)) (fun α=>Eq.trans (b:=aR .rem (.int .i64 (gh a*gh b)) (.int .i64 1073741789)) (by kernel_rfl) (te (xw m1.1 m1.2 m2.1 m2.2).1)) ?_
 exact PI (.int .i64 ((gh a*gh b) % 1073741789)) (rfl)
def Pz(K:PZ)(f:FuncId)(xs:List SX.Arg)(v:Value):Prop :=
 (f=57∧∃ (hdr:Value) (fl:List Fl),xs=[⟨.agg #[.int .i64 3,.int .i64 0,.string ⟨#[]⟩,hdr],0,[]⟩]∧K hdr 4 (gn fl)∧fl.length≤1048576∧(∀ z∈fl,z.fits)∧v=.tuple #[.agg ((aI fl).flatMap c8).toArray,.int .i64 0]) ∨
 (f=61∧∃ (s:ByteArray) (u:Value) (l:List W8),xs=[⟨.string s,0,[]⟩,⟨u,1,l.flatMap c8⟩]∧s.size<2 ^ 44∧l.length<2 ^ 44∧v=.int .i64 (mL (jM (sb s) l):Int)) ∨
 (f=62∧∃ a n:Int,xs=[⟨.int .i64 a,0,[]⟩,⟨.int .i64 n,0,[]⟩]∧v=.tuple #[.int .i64 (Jac.ap a n),.int .i64 (Jac.eL a a)]) ∨
 (f=101∧∃ a n:Int,xs=[⟨.int .i64 a,0,[]⟩,⟨.int .i64 n,0,[]⟩]∧v=.tuple #[.int .i64 (Jac.eC a n),.int .i64 (Jac.eL a n)]) ∨
 (f=72∧∃ x:Int,xs=[⟨.int .i64 x,0,[]⟩]∧v=.bool (Jac.eU x)) ∨
 (f=64∧∃ a b:Int,xs=[⟨.int .i64 a,0,[]⟩,⟨.int .i64 b,0,[]⟩]∧v=.int .i64 (gh a*gh b % 1073741789))
def Nk:FuncId→Option SX.Sh:=fun f=>if f=57 then some (.tp [.sl 1,.one])else if f=61 then some .one else if f=62 then some (.tp [.one,.one])else if f=101 then some (.tp [.one,.one])else if f=72 then some .one else if f=64 then some .one else none
noncomputable def Kx(K A:PZ):SX.Cx:={ P:=Tryz.prog,R:=Pz,shp:=Nk,K:=K,A:=A,trm:=true }
theorem MM(K A:PZ):(Kx K A).Ok:=by
 refine SX.Cx.bP (fun _=>rfl) ?_
 intro K f xs v W hR hrd hKf
 rcases hR with ⟨rfl,hdr,fl,rfl,hk,hl,hf,rfl⟩|⟨rfl,s,u,l,rfl,hs,hl,rfl⟩|⟨rfl,a,n,rfl,rfl⟩|⟨rfl,a,n,rfl,rfl⟩|⟨rfl,x,rfl,rfl⟩|⟨rfl,a,b,rfl,rfl⟩
 ·obtain⟨A,n,c,rfl,h2,h3,h4⟩:=jy (hKf _ _ _ hk)
  exact Calls.mono (kx fl A n c W h2 (by omega) h3 hf) fun e w' h=>az.Nz rfl h
 ·obtain⟨A,n,c,rfl,hr,hc,-⟩:=cI (hrd ⟨u,1,l.flatMap c8⟩ (by simp))
  exact(tf s l hs hl A n c W hr hc).mono fun e w' h=>al rfl h
 ·exact(xS a n W).mono fun e w' h=>al rfl ⟨h.1,h.2▸Below.refl _ _⟩
 ·exact(GG a n W).mono fun e w' h=>al rfl ⟨h.1,h.2▸Below.refl _ _⟩
 ·exact(jK x W).mono fun e w' h=>al rfl ⟨h.1,h.2▸Below.refl _ _⟩
 exact(qM a b W).mono fun e w' h=>al rfl h
def oU:SX.Tree :=
(.df .b2sx [(.q 2)] .one
(.df (.callg 57 [.no] [(.own 4 [(.i 1),(.q 0),(.k (.string ⟨#[]⟩)),(.k (.slice none 0 0)),(.i 1),(.q 1),(.k (.string ⟨#[]⟩)),(.k (.slice none 0 0)),(.i 2),(.i 0),(.q 3),(.k (.slice none 0 0))])]) [(.a [(.i 3),(.i 0),(.k (.string ⟨#[]⟩)),(.sl 7 0 3 3)]),(.sl 7 0 3 3)] (.tp [(.sl 1),.one])
(.df (.call 61 [.no,(.row 1 [(.x 4 [0])])]) [(.k (.string ⟨#[115,105,103,110]⟩)),(.row 9)] .one
(.ret (.q 5) [] []))))
def wB:List SX.V:=[.x 0 [],.x 1 [],.x 2 []]
theorem Ay(K A:PZ):PY (Kx K A) ⟨fun f=>true,[],0,100⟩ 63 Tryz.f63 wB [.one,.one,.one]=oU:=by kernel_rfl
theorem Ah(r key:Int)(tx:ByteArray)(A:Option Addr)(n c:Nat)(w:World)(b1 : -9223372036854775808≤r)(b2:r≤9223372036854775807)(b3 : -9223372036854775808≤key)(b4:key≤9223372036854775807)(hr:Rd w 1 A n ((sb tx).flatMap c8))(hc:n≤c)(htx:tx.size≤1048576):RT 63 #[.int .i64 r,.int .i64 key,.slice A n c] w (.int .i64 (bW r key tx)):=by
 refine PK (Ay (fun s sz cells=>s=.slice A n c∧sz=1∧cells=(sb tx).flatMap c8) P0) [.int .i64 r,.int .i64 key,.slice A n c] (MM _ _) Tryz.func63 ?_ ?_
 ·rintro W hW s sz cells ⟨rfl,rfl,rfl⟩;exact⟨hr.aD hW,hc⟩
 unfold oU
 refine PG (.string tx) (fun α=>⟨tx.data.toList,A,n,c,by rw [Li];exact⟨rfl,rfl,rfl⟩,by kernel_rfl,by simp⟩) ?_
 refine aK (.tuple #[Value.agg ((aI [.n r,.n key,.s tx]).flatMap c8).toArray,.int .i64 0]) (fun α=>⟨[⟨.agg #[.int .i64 3,.int .i64 0,.string ⟨#[]⟩,.slice (some ⟨(α 7).b,0,none⟩) 3 3],0,[]⟩],[⟨.slice (some ⟨(α 7).b,0,none⟩) 3 3,4,gn [.n r,.n key,.s tx]⟩],PT,PS,.inl ⟨rfl,_,[.n r,.n key,.s tx],rfl,.inr (by simp),by simp,by intro z hz;simp only [List.mem_cons,List.not_mem_nil,or_false]at hz;rcases hz with rfl|rfl|rfl<;>simp only [Fl.fits]<;>omega,rfl⟩,af rfl⟩) ((ju _ _)) ?_
 refine PG (.int .i64 ((bn dk [.n r,.n key,.s tx]))) (fun α=>⟨[⟨.string dk,0,[]⟩,⟨(α 9).h,1,(aI [.n r,.n key,.s tx]).flatMap c8⟩],⟨by kernel_rfl,by kernel_rfl,Eq.trans (b:=(⟨(α 9).h,1,[Value.agg ((aI [.n r,.n key,.s tx]).flatMap c8).toArray].flatMap aa⟩:SX.Arg)) (by simp [aa]) (by kernel_rfl),trivial⟩,.inr (.inl ⟨rfl,dk,_,aI [.n r,.n key,.s tx],rfl,by decide,fN (by intro z hz;simp only [List.mem_cons,List.not_mem_nil,or_false]at hz;rcases hz with rfl|rfl|rfl<;>simp only [Fl.fits]<;>omega) (by simp),rfl⟩),af rfl⟩) ?_
 exact PI (.int .i64 ((bn dk [.n r,.n key,.s tx]))) (rfl)
def oT:SX.Tree :=
(.df (.call 62 [.no,.no]) [(.i 4),(.q 2)] (.tp [.one,.one])
(.df .neg [(.q 1)] .one
(.df (.call 62 [.no,.no]) [(.q 0),(.q 4)] (.tp [.one,.one])
(.df (.call 101 [.no,.no]) [(.x 3 [0]),(.x 5 [0])] (.tp [.one,.one])
(.ret (.x 6 [0]) [] [])))))
def wA:List SX.V:=[.x 0 [],.a [.x 1 [],.x 2 []]]
theorem Ax(K A:PZ):PY (Kx K A) ⟨fun f=>true,[],0,100⟩ 73 Tryz.f73 wA (List.replicate 3 .one)=oT:=by kernel_rfl
theorem Ae(key E S:Int)(w:World)(h1:0≤E)(h2:E<1073741789):RT 73 #[.int .i64 key,.agg #[.int .i64 E,.int .i64 S]] w (.int .i64 (Jac.eC (Jac.ap 4 S) (Jac.ap key (-E)))):=by
 refine PK (Ax P0 P0) [.int .i64 key,.int .i64 E,.int .i64 S] (MM _ _) Tryz.func73 ?_ ?_
 ·exact fun W _=>cd (fun _ _ _ h=>h) W
 unfold oT
 refine PG (.tuple #[.int .i64 ((Jac.ap 4 S)),.int .i64 ((Jac.eL 4 4))]) (fun α=>⟨[⟨.int .i64 4,0,[]⟩,⟨.int .i64 S,0,[]⟩],PU,.inr (.inr (.inl ⟨rfl,_,_,rfl,rfl⟩)),af rfl⟩) ?_
 refine PG (.int .i64 ((-E))) (fun α=>PL (-E)) ?_
 refine PG (.tuple #[.int .i64 ((Jac.ap key ((-E)))),.int .i64 ((Jac.eL key key))]) (fun α=>⟨[⟨.int .i64 key,0,[]⟩,⟨.int .i64 ((-E)),0,[]⟩],PU,.inr (.inr (.inl ⟨rfl,_,_,rfl,rfl⟩)),af rfl⟩) ?_
 refine PG (.tuple #[.int .i64 ((Jac.eC ((Jac.ap 4 S)) ((Jac.ap key ((-E)))))),.int .i64 ((Jac.eL ((Jac.ap 4 S)) ((Jac.ap key ((-E))))))]) (fun α=>⟨[⟨.int .i64 ((Jac.ap 4 S)),0,[]⟩,⟨.int .i64 ((Jac.ap key ((-E)))),0,[]⟩],PU,.inr (.inr (.inr (.inl ⟨rfl,_,_,rfl,rfl⟩))),af rfl⟩) ?_
 exact PI (.int .i64 ((Jac.eC ((Jac.ap 4 S)) ((Jac.ap key ((-E))))))) (rfl)
def PA(K:PZ)(f:FuncId)(xs:List SX.Arg)(v:Value):Prop :=
 (f=57∧∃ (hdr:Value) (fl:List Fl),xs=[⟨.agg #[.int .i64 3,.int .i64 0,.string ⟨#[]⟩,hdr],0,[]⟩]∧K hdr 4 (gn fl)∧fl.length≤1048576∧(∀ z∈fl,z.fits)∧v=.tuple #[.agg ((aI fl).flatMap c8).toArray,.int .i64 0]) ∨
 (f=61∧∃ (s:ByteArray) (u:Value) (l:List W8),xs=[⟨.string s,0,[]⟩,⟨u,1,l.flatMap c8⟩]∧s.size<2 ^ 44∧l.length<2 ^ 44∧v=.int .i64 (mL (jM (sb s) l):Int)) ∨
 (f=62∧∃ a n:Int,xs=[⟨.int .i64 a,0,[]⟩,⟨.int .i64 n,0,[]⟩]∧v=.tuple #[.int .i64 (Jac.ap a n),.int .i64 (Jac.eL a a)]) ∨
 (f=72∧∃ x:Int,xs=[⟨.int .i64 x,0,[]⟩]∧v=.bool (Jac.eU x)) ∨
 (f=64∧∃ a b:Int,xs=[⟨.int .i64 a,0,[]⟩,⟨.int .i64 b,0,[]⟩]∧v=.int .i64 (gh a*gh b % 1073741789)) ∨
 (f=63∧∃ (r key:Int) (u:Value) (tx:ByteArray),xs=[⟨.int .i64 r,0,[]⟩,⟨.int .i64 key,0,[]⟩,⟨u,1,(sb tx).flatMap c8⟩]∧tx.size≤1048576∧(-9223372036854775808≤r∧r≤9223372036854775807∧-9223372036854775808≤key∧key≤9223372036854775807)∧v=.int .i64 (bW r key tx)) ∨
 (f=73∧∃ key E S:Int,xs=[⟨.int .i64 key,0,[]⟩,⟨.agg #[.int .i64 E,.int .i64 S],0,[]⟩]∧0≤E∧E<1073741789∧v=.int .i64 (Jac.eC (Jac.ap 4 S) (Jac.ap key (-E))))
def Nl:FuncId→Option SX.Sh:=fun f=>if f=57 then some (.tp [.sl 1,.one])else if f=61 then some .one else if f=62 then some (.tp [.one,.one])else if f=72 then some .one else if f=64 then some .one else if f=63 then some .one else if f=73 then some .one else none
noncomputable def Mo(K A:PZ):SX.Cx:={ P:=Tryz.prog,R:=PA,shp:=Nl,K:=K,A:=A,trm:=true }
theorem ON(K A:PZ):(Mo K A).Ok:=by
 refine SX.Cx.bP (fun _=>rfl) ?_
 intro K f xs v W hR hrd hKf
 rcases hR with ⟨rfl,hdr,fl,rfl,hk,hl,hf,rfl⟩|⟨rfl,s,u,l,rfl,hs,hl,rfl⟩|⟨rfl,a,n,rfl,rfl⟩|⟨rfl,x,rfl,rfl⟩|⟨rfl,a,b,rfl,rfl⟩|⟨rfl,r,key,u,tx,rfl,htx,⟨b1,b2,b3,b4⟩,rfl⟩|⟨rfl,key,E,S,rfl,h1,h2,rfl⟩
 ·obtain⟨A,n,c,rfl,h2,h3,h4⟩:=jy (hKf _ _ _ hk)
  exact Calls.mono (kx fl A n c W h2 (by omega) h3 hf) fun e w' h=>az.Nz rfl h
 ·obtain⟨A,n,c,rfl,hr,hc,-⟩:=cI (hrd ⟨u,1,l.flatMap c8⟩ (by simp))
  exact(tf s l hs hl A n c W hr hc).mono fun e w' h=>al rfl h
 ·exact(xS a n W).mono fun e w' h=>al rfl ⟨h.1,h.2▸Below.refl _ _⟩
 ·exact(jK x W).mono fun e w' h=>al rfl ⟨h.1,h.2▸Below.refl _ _⟩
 ·exact(qM a b W).mono fun e w' h=>al rfl h
 ·obtain⟨A,n,c,rfl,hr,hc,-⟩:=cI (hrd ⟨u,1,(sb tx).flatMap c8⟩ (by simp))
  exact(Ah r key tx A n c W b1 b2 b3 b4 hr hc htx).mono fun e w' h=>al rfl h
 exact(Ae key E S W h1 h2).mono fun e w' h=>al rfl h
theorem pq{a:Int}(h1:0≤a)(h2:a<1073741789):gh a=a:=by
 rw [uO,Int.tmod_eq_emod_of_nonneg h1,Int.emod_eq_of_lt h1 h2,if_neg (by omega)]
def rL:SX.Tree :=
(.df (.bin .lss 3) [(.q 0),(.i 1)] .one
(.br 2 []
(.ret (.t [(.a [(.i 0),(.i 0)]),(.i 110)]) [] [])
(.df (.bin .geq 3) [(.q 0),(.i 1073741789)] .one
(.br 3 []
(.ret (.t [(.a [(.i 0),(.i 0)]),(.i 110)]) [] [])
(.df .b2sx [(.q 1)] .one
(.df (.callg 57 [.no] [(.own 4 [(.i 1),(.q 0),(.k (.string ⟨#[]⟩)),(.k (.slice none 0 0)),(.i 2),(.i 0),(.q 4),(.k (.slice none 0 0))])]) [(.a [(.i 3),(.i 0),(.k (.string ⟨#[]⟩)),(.sl 6 0 2 2)]),(.sl 6 0 2 2)] (.tp [(.sl 1),.one])
(.df (.call 61 [.no,(.row 1 [(.x 5 [0])])]) [(.k (.string ⟨#[110,111,110,99,101]⟩)),(.row 8)] .one
(.df (.bin .eql 3) [(.q 6),(.i 0)] .one
(.br 7 []
(.df (.call 62 [.no,.no]) [(.i 4),(.q 0)] (.tp [.one,.one])
(.df (.call 62 [.no,.no]) [(.i 4),(.i 1)] (.tp [.one,.one])
(.df (.call 63 [.no,.no,(.ext 1)]) [(.x 9 [0]),(.x 8 [0]),(.q 1)] .one
(.df (.call 64 [.no,.no]) [(.q 10),(.q 0)] .one
(.df (.bin .add 3) [(.i 1),(.q 11)] .one
(.df (.bin .rem 3) [(.q 12),(.i 1073741789)] .one
(.ret (.t [(.a [(.q 10),(.q 13)]),(.i 0)]) [] [])))))))
(.df (.call 62 [.no,.no]) [(.i 4),(.q 0)] (.tp [.one,.one])
(.df (.call 62 [.no,.no]) [(.i 4),(.q 6)] (.tp [.one,.one])
(.df (.call 63 [.no,.no,(.ext 1)]) [(.x 9 [0]),(.x 8 [0]),(.q 1)] .one
(.df (.call 64 [.no,.no]) [(.q 10),(.q 0)] .one
(.df (.bin .add 3) [(.q 6),(.q 11)] .one
(.df (.bin .rem 3) [(.q 12),(.i 1073741789)] .one
(.ret (.t [(.a [(.q 10),(.q 13)]),(.i 0)]) [] []))))))))))))))))
def y4:List SX.V:=[.x 0 [],.x 1 []]
theorem Ek(K A:PZ):PY (Mo K A) ⟨fun f=>true,[],0,100⟩ 25 Tryz.f25 y4 [.one,.one]=rL:=by kernel_rfl
theorem DS(secret:Int)(tx:ByteArray)(A:Option Addr)(n c:Nat)(w:World)(hr:Rd w 1 A n ((sb tx).flatMap c8))(hc:n≤c)(htx:tx.size≤1048576):RT 25 #[.int .i64 secret,.slice A n c] w (.tuple #[.agg #[.int .i64 (cx secret tx).1,.int .i64 (cx secret tx).2.1],.int .i64 (cx secret tx).2.2]):=by
 refine PK (Ek (fun s sz cells=>s=.slice A n c∧sz=1∧cells=(sb tx).flatMap c8) P0) [.int .i64 secret,.slice A n c] (ON _ _) Tryz.func25 ?_ ?_
 ·rintro W hW s sz cells ⟨rfl,rfl,rfl⟩;exact⟨hr.aD hW,hc⟩
 unfold rL
 refine PF (.bool (decide (secret<1))) ?_
 refine PH (decide (secret<1)) (fun h2=>?_) (fun h2=>?_)
 ·try simp only [aJ]at h2
  exact PI (.tuple #[.agg #[.int .i64 0,.int .i64 0],.int .i64 110]) (by rw [yh (by omega)])
 try simp only [aJ]at h2
 refine PF (.bool (decide (secret≥1073741789))) ?_
 refine PH (decide (secret≥1073741789)) (fun h3=>?_) (fun h3=>?_)
 ·try simp only [aJ]at h3
  exact PI (.tuple #[.agg #[.int .i64 0,.int .i64 0],.int .i64 110]) (by rw [yh (by omega)])
 try simp only [aJ]at h3
 refine PG (.string tx) (fun α=>⟨tx.data.toList,A,n,c,by rw [Li];exact⟨rfl,rfl,rfl⟩,by kernel_rfl,by simp⟩) ?_
 refine aK (.tuple #[Value.agg ((aI [.n secret,.s tx]).flatMap c8).toArray,.int .i64 0]) (fun α=>⟨[⟨.agg #[.int .i64 3,.int .i64 0,.string ⟨#[]⟩,.slice (some ⟨(α 6).b,0,none⟩) 2 2],0,[]⟩],[⟨.slice (some ⟨(α 6).b,0,none⟩) 2 2,4,gn [.n secret,.s tx]⟩],PT,PS,.inl ⟨rfl,_,[.n secret,.s tx],rfl,.inr (by simp),by simp,by intro z hz;simp only [List.mem_cons,List.not_mem_nil,or_false]at hz;rcases hz with rfl|rfl<;>simp only [Fl.fits]<;>omega,rfl⟩,af rfl⟩) ((ju _ _)) ?_
 refine PG (.int .i64 ((bn bH [.n secret,.s tx]))) (fun α=>⟨[⟨.string bH,0,[]⟩,⟨(α 8).h,1,(aI [.n secret,.s tx]).flatMap c8⟩],⟨by kernel_rfl,by kernel_rfl,Eq.trans (b:=(⟨(α 8).h,1,[Value.agg ((aI [.n secret,.s tx]).flatMap c8).toArray].flatMap aa⟩:SX.Arg)) (by simp [aa]) (by kernel_rfl),trivial⟩,.inr (.inl ⟨rfl,bH,_,aI [.n secret,.s tx],rfl,by decide,fN (by intro z hz;simp only [List.mem_cons,List.not_mem_nil,or_false]at hz;rcases hz with rfl|rfl<;>simp only [Fl.fits]<;>omega) (by simp),rfl⟩),af rfl⟩) ?_
 have hkb:=mM bH [.n secret,.s tx]
 have hp2:=mW 4 secret
 refine PF (.bool (((bn bH [.n secret,.s tx]):Int) == 0)) ?_
 refine PH (((bn bH [.n secret,.s tx]):Int) == 0) (fun h7=>?_) (fun h7=>?_)
 ·try simp only [aJ]at h7
  have hnv:bf secret tx=1:=by unfold bf;rw [show bn bH [.n secret,.s tx]=0 by simpa using h7];rfl
  refine PG (.tuple #[.int .i64 ((Jac.ap 4 secret)),.int .i64 ((Jac.eL 4 4))]) (fun α=>⟨[⟨.int .i64 4,0,[]⟩,⟨.int .i64 secret,0,[]⟩],PU,.inr (.inr (.inl ⟨rfl,_,_,rfl,rfl⟩)),af rfl⟩) ?_
  refine PG (.tuple #[.int .i64 ((Jac.ap 4 1)),.int .i64 ((Jac.eL 4 4))]) (fun α=>⟨[⟨.int .i64 4,0,[]⟩,⟨.int .i64 1,0,[]⟩],PU,.inr (.inr (.inl ⟨rfl,_,_,rfl,rfl⟩)),af rfl⟩) ?_
  have hp1:=mW 4 1
  refine PG (.int .i64 ((bW ((Jac.ap 4 1)) ((Jac.ap 4 secret)) tx))) (fun α=>⟨[⟨.int .i64 ((Jac.ap 4 1)),0,[]⟩,⟨.int .i64 ((Jac.ap 4 secret)),0,[]⟩,⟨.slice A n c,1,(sb tx).flatMap c8⟩],⟨by kernel_rfl,by kernel_rfl,by kernel_rfl,by kernel_rfl,by kernel_rfl,by kernel_rfl,⟨rfl,rfl,rfl⟩,trivial⟩,.inr (.inr (.inr (.inr (.inr (.inl ⟨rfl,_,_,_,tx,rfl,by omega,⟨by omega,by omega,by omega,by omega⟩,rfl⟩))))),af rfl⟩) ?_
  have heb:=nS (Jac.ap 4 1) (Jac.ap 4 secret) tx
  have hub:=Int.emod_nonneg (bW (Jac.ap 4 1) (Jac.ap 4 secret) tx*secret) (show(1073741789:Int)≠0 by decide)
  have hub2:=Int.emod_lt_of_pos (bW (Jac.ap 4 1) (Jac.ap 4 secret) tx*secret) (show(0:Int)<1073741789 by decide)
  refine PG (.int .i64 ((((bW ((Jac.ap 4 1)) ((Jac.ap 4 secret)) tx))*secret % 1073741789))) (fun α=>⟨[⟨.int .i64 ((bW ((Jac.ap 4 1)) ((Jac.ap 4 secret)) tx)),0,[]⟩,⟨.int .i64 secret,0,[]⟩],PU,.inr (.inr (.inr (.inr (.inl ⟨rfl,_,_,rfl,by rw [pq (by omega) (by omega),pq (by omega) (by omega)]⟩)))),af rfl⟩) ?_
  refine PG (.int .i64 (1+((((bW ((Jac.ap 4 1)) ((Jac.ap 4 secret)) tx))*secret % 1073741789)))) (fun α=>Eq.trans (b:=some (.int .i64 (IntKind.i64.wrap (1+((((bW ((Jac.ap 4 1)) ((Jac.ap 4 secret)) tx))*secret % 1073741789)))))) (by kernel_rfl) (by rw [wrap_i64 (by omega) (by omega)])) ?_
  refine PG (.int .i64 ((1+((((bW ((Jac.ap 4 1)) ((Jac.ap 4 secret)) tx))*secret % 1073741789))) % 1073741789)) (fun α=>Eq.trans (b:=aR .rem (.int .i64 (1+((((bW ((Jac.ap 4 1)) ((Jac.ap 4 secret)) tx))*secret % 1073741789)))) (.int .i64 1073741789)) (by kernel_rfl) (te (by omega))) ?_
  exact PI (.tuple #[.agg #[.int .i64 ((bW ((Jac.ap 4 1)) ((Jac.ap 4 secret)) tx)),.int .i64 ((1+((((bW ((Jac.ap 4 1)) ((Jac.ap 4 secret)) tx))*secret % 1073741789))) % 1073741789)],.int .i64 0]) (by unfold cx;rw [if_neg (by omega),hnv])
 try simp only [aJ]at h7
 have hnv:bf secret tx=(bn bH [.n secret,.s tx]):=by unfold bf;omega
 refine PG (.tuple #[.int .i64 ((Jac.ap 4 secret)),.int .i64 ((Jac.eL 4 4))]) (fun α=>⟨[⟨.int .i64 4,0,[]⟩,⟨.int .i64 secret,0,[]⟩],PU,.inr (.inr (.inl ⟨rfl,_,_,rfl,rfl⟩)),af rfl⟩) ?_
 refine PG (.tuple #[.int .i64 ((Jac.ap 4 ((bn bH [.n secret,.s tx])))),.int .i64 ((Jac.eL 4 4))]) (fun α=>⟨[⟨.int .i64 4,0,[]⟩,⟨.int .i64 ((bn bH [.n secret,.s tx])),0,[]⟩],PU,.inr (.inr (.inl ⟨rfl,_,_,rfl,rfl⟩)),af rfl⟩) ?_
 have hp1:=mW 4 (bn bH [.n secret,.s tx])
 refine PG (.int .i64 ((bW ((Jac.ap 4 ((bn bH [.n secret,.s tx])))) ((Jac.ap 4 secret)) tx))) (fun α=>⟨[⟨.int .i64 ((Jac.ap 4 ((bn bH [.n secret,.s tx])))),0,[]⟩,⟨.int .i64 ((Jac.ap 4 secret)),0,[]⟩,⟨.slice A n c,1,(sb tx).flatMap c8⟩],⟨by kernel_rfl,by kernel_rfl,by kernel_rfl,by kernel_rfl,by kernel_rfl,by kernel_rfl,⟨rfl,rfl,rfl⟩,trivial⟩,.inr (.inr (.inr (.inr (.inr (.inl ⟨rfl,_,_,_,tx,rfl,by omega,⟨by omega,by omega,by omega,by omega⟩,rfl⟩))))),af rfl⟩) ?_
 have heb:=nS (Jac.ap 4 (bn bH [.n secret,.s tx])) (Jac.ap 4 secret) tx
 have hub:=Int.emod_nonneg (bW (Jac.ap 4 (bn bH [.n secret,.s tx])) (Jac.ap 4 secret) tx*secret) (show(1073741789:Int)≠0 by decide)
 have hub2:=Int.emod_lt_of_pos (bW (Jac.ap 4 (bn bH [.n secret,.s tx])) (Jac.ap 4 secret) tx*secret) (show(0:Int)<1073741789 by decide)
 refine PG (.int .i64 ((((bW ((Jac.ap 4 ((bn bH [.n secret,.s tx])))) ((Jac.ap 4 secret)) tx))*secret % 1073741789))) (fun α=>⟨[⟨.int .i64 ((bW ((Jac.ap 4 ((bn bH [.n secret,.s tx])))) ((Jac.ap 4 secret)) tx)),0,[]⟩,⟨.int .i64 secret,0,[]⟩],PU,.inr (.inr (.inr (.inr (.inl ⟨rfl,_,_,rfl,by rw [pq (by omega) (by omega),pq (by omega) (by omega)]⟩)))),af rfl⟩) ?_
 refine PG (.int .i64 (((bn bH [.n secret,.s tx]))+((((bW ((Jac.ap 4 ((bn bH [.n secret,.s tx])))) ((Jac.ap 4 secret)) tx))*secret % 1073741789)))) (fun α=>Eq.trans (b:=some (.int .i64 (IntKind.i64.wrap (((bn bH [.n secret,.s tx]))+((((bW ((Jac.ap 4 ((bn bH [.n secret,.s tx])))) ((Jac.ap 4 secret)) tx))*secret % 1073741789)))))) (by kernel_rfl) (by rw [wrap_i64 (by omega) (by omega)])) ?_
 refine PG (.int .i64 ((((bn bH [.n secret,.s tx]))+((((bW ((Jac.ap 4 ((bn bH [.n secret,.s tx])))) ((Jac.ap 4 secret)) tx))*secret % 1073741789))) % 1073741789)) (fun α=>Eq.trans (b:=aR .rem (.int .i64 (((bn bH [.n secret,.s tx]))+((((bW ((Jac.ap 4 ((bn bH [.n secret,.s tx])))) ((Jac.ap 4 secret)) tx))*secret % 1073741789)))) (.int .i64 1073741789)) (by kernel_rfl) (te (by omega))) ?_
 exact PI (.tuple #[.agg #[.int .i64 ((bW ((Jac.ap 4 ((bn bH [.n secret,.s tx])))) ((Jac.ap 4 secret)) tx)),.int .i64 ((((bn bH [.n secret,.s tx]))+((((bW ((Jac.ap 4 ((bn bH [.n secret,.s tx])))) ((Jac.ap 4 secret)) tx))*secret % 1073741789))) % 1073741789)],.int .i64 0]) (by unfold cx;rw [if_neg (by omega),hnv])
theorem Hr{secret:Int}{tx:ByteArray}(h1:1≤secret)(h2:secret<1073741789):cx secret tx=(bW (Jac.ap 4 (bf secret tx)) (Jac.ap 4 secret) tx,(bf secret tx+bW (Jac.ap 4 (bf secret tx)) (Jac.ap 4 secret) tx*secret % 1073741789) % 1073741789,0):=by unfold cx;rw [if_neg (by omega)]
theorem Eu{secret:Int}{tx:ByteArray}(h1:1≤secret)(h2:secret<1073741789):(cx secret tx).2.2=0:=by rw [Hr h1 h2]
def O8(K:PZ)(f:FuncId)(xs:List SX.Arg)(v:Value):Prop:=f=57∧∃ (hdr:Value) (fl:List Fl),xs=[⟨.agg #[.int .i64 3,.int .i64 0,.string ⟨#[]⟩,hdr],0,[]⟩]∧K hdr 4 (gn fl)∧fl.length≤1048576∧(∀ z∈fl,z.fits)∧v=.tuple #[.agg ((aI fl).flatMap c8).toArray,.int .i64 0]
def BP:FuncId→Option SX.Sh:=fun f=>if f=57 then some (.tp [.sl 1,.one])else if f∈[52,22]then some .one else if f∈[36,26]then some (.sl 1)else if f=23 then some (.ag 32)else if f=25 then some (.tp [.ag 2,.one])else none
noncomputable def Kj(K A:PZ):SX.Cx:={ P:=Tryz.prog,R:=O8,shp:=BP,K:=K,A:=A,trm:=true }
theorem MI(K A:PZ):(Kj K A).Ok:=by
 refine SX.Cx.bP (fun _=>rfl) ?_
 intro K f xs v W hR hrd hKf
 obtain⟨rfl,hdr,fl,rfl,hk,hl,hf,rfl⟩:=hR
 obtain⟨A,n,c,rfl,h2,h3,h4⟩:=jy (hKf _ _ _ hk)
 exact Calls.mono (kx fl A n c W h2 (by omega) h3 hf) fun e w' h=>az.Nz rfl h
def rG:SX.Tree :=(.df (.callg 57 [.no] [(.own 4 [(.i 2),(.i 0),(.k (.string ⟨#[108,105,109,105,116]⟩)),(.k (.slice none 0 0)),(.i 1),(.q 0),(.k (.string ⟨#[]⟩)),(.k (.slice none 0 0)),(.i 1),(.x 1 [0]),(.k (.string ⟨#[]⟩)),(.k (.slice none 0 0)),(.i 1),(.x 1 [1]),(.k (.string ⟨#[]⟩)),(.k (.slice none 0 0)),(.i 1),(.x 1 [2]),(.k (.string ⟨#[]⟩)),(.k (.slice none 0 0)),(.i 1),(.x 1 [3]),(.k (.string ⟨#[]⟩)),(.k (.slice none 0 0)),(.i 1),(.x 1 [4]),(.k (.string ⟨#[]⟩)),(.k (.slice none 0 0)),(.i 1),(.x 1 [5]),(.k (.string ⟨#[]⟩)),(.k (.slice none 0 0)),(.i 1),(.x 1 [6]),(.k (.string ⟨#[]⟩)),(.k (.slice none 0 0)),(.i 1),(.x 1 [7]),(.k (.string ⟨#[]⟩)),(.k (.slice none 0 0)),(.i 1),(.x 1 [8]),(.k (.string ⟨#[]⟩)),(.k (.slice none 0 0)),(.i 1),(.q 2),(.k (.string ⟨#[]⟩)),(.k (.slice none 0 0))])]) [(.a [(.i 3),(.i 0),(.k (.string ⟨#[]⟩)),(.sl 36 0 12 12)]),(.sl 36 0 12 12)] (.tp [(.sl 1),.one])
(.ret (.row 38) (List.replicate 38 none++[(some ⟨[(.x 3 [0])],0,(.ext 1)⟩)]) []))
def yX:List SX.V:=[.x 0 [],.a ((List.range 9).map fun j=>.x 1 [j]),.x 2 []]
def Cv:jl:=⟨fun f=>true,[],2,100⟩
theorem Ee(K A:PZ):PY (Kj K A) Cv 36 Tryz.f36 yX [.one,.ag 9,.one]=rG:=by kernel_rfl
theorem DH(at_ salt:Int)(x:bX)(w:World)(hf:∀ z∈aU at_ x salt,z.fits):RS 36 #[.int .i64 at_,hO x,.int .i64 salt] w 1 ((aI (aU at_ x salt)).flatMap c8):=by
 refine PK (Ee P0 P0) [.int .i64 at_,hO x,.int .i64 salt] (MI _ _) Tryz.func36 ?_ ?_
 ·exact fun W hW v z xs h=>h.elim
 unfold rG
 generalize hfl:aU at_ x salt=fl at *
 have hfll:fl.length≤1048576:=by rw [← hfl];simp [aU,bF]
 refine aK (.tuple #[.agg ((aI fl).flatMap c8).toArray,.int .i64 0]) (fun α=>⟨[⟨.agg #[.int .i64 3,.int .i64 0,.string ⟨#[]⟩,.slice (some ⟨(α 36).b,0,none⟩) 12 12],0,[]⟩],[⟨.slice (some ⟨(α 36).b,0,none⟩) 12 12,4,gn fl⟩],PT,⟨by rw [← hfl];kernel_rfl,trivial⟩,⟨rfl,_,fl,rfl,.inr (by simp),hfll,hf,rfl⟩,af rfl⟩) (ju _ _) ?_
 exact aY fun α W _ hR hS=>⟨hS.below,(α 38).h,by kernel_rfl,az.wV hS (n:=38) (b:=(⟨[(.x 3 [0])],0,(.ext 1)⟩:ae)) (by kernel_rfl) rfl (hR 38 _ (by kernel_rfl)) (Eq.trans (b:=[Value.agg ((aI fl).flatMap c8).toArray].flatMap aa) (by kernel_rfl) (by simp [aa])) (fun W2 s z xs hk=>nomatch hk) (fun B s z xs hk=>nomatch hk)⟩
def nt:SX.Tree :=(.df .b2s [(.a (PN 0 2 32))] .one
(.df (.callg 57 [.no] [(.own 4 [(.i 2),(.i 0),(.k (.string ⟨#[108,105,109,105,116,115]⟩)),(.k (.slice none 0 0)),(.i 1),(.x 0 [0]),(.k (.string ⟨#[]⟩)),(.k (.slice none 0 0)),(.i 1),(.x 0 [1]),(.k (.string ⟨#[]⟩)),(.k (.slice none 0 0)),(.i 2),(.i 0),(.q 1),(.k (.slice none 0 0))])]) [(.a [(.i 3),(.i 0),(.k (.string ⟨#[]⟩)),(.sl 12 0 4 4)]),(.sl 12 0 4 4)] (.tp [(.sl 1),.one])
(.ret (.row 14) (List.replicate 14 none++[(some ⟨[(.x 2 [0])],0,(.ext 1)⟩)]) [])))
def ul:List SX.V:=[.a ([.x 0 [0],.x 0 [1]]++((List.range 32).map fun j=>.x 0 [2+j])++[.x 0 [34],.x 0 [35]])]
def wK:jl:=⟨fun f=>true,[],2,100⟩
theorem ya(K A:PZ):PY (Kj K A) wK 26 Tryz.f26 ul [.ag 36]=nt:=by kernel_rfl
theorem xU(person count E S:Int)(root:Dg)(w:World)(hf:∀ z∈bF person count root,z.fits):RS 26 #[bp person count root E S] w 1 ((aI (bF person count root)).flatMap c8):=by
 refine PK (ya P0 P0) [bp person count root E S] (MI _ _) Tryz.func26 ?_ ?_
 ·exact fun W hW v z xs h=>h.elim
 unfold nt
 refine PG (.string (bt (eE root))) (fun α=>A7 (l:=eE root) (by kernel_rfl)) ?_
 generalize hfl:bF person count root=fl at *
 have hfll:fl.length≤1048576:=by rw [← hfl];simp [aU,bF]
 refine aK (.tuple #[.agg ((aI fl).flatMap c8).toArray,.int .i64 0]) (fun α=>⟨[⟨.agg #[.int .i64 3,.int .i64 0,.string ⟨#[]⟩,.slice (some ⟨(α 12).b,0,none⟩) 4 4],0,[]⟩],[⟨.slice (some ⟨(α 12).b,0,none⟩) 4 4,4,gn fl⟩],PT,⟨by rw [← hfl];kernel_rfl,trivial⟩,⟨rfl,_,fl,rfl,.inr (by simp),hfll,hf,rfl⟩,af rfl⟩) (ju _ _) ?_
 exact aY fun α W _ hR hS=>⟨hS.below,(α 14).h,by kernel_rfl,az.wV hS (n:=14) (b:=(⟨[(.x 2 [0])],0,(.ext 1)⟩:ae)) (by kernel_rfl) rfl (hR 14 _ (by kernel_rfl)) (Eq.trans (b:=[Value.agg ((aI fl).flatMap c8).toArray].flatMap aa) (by kernel_rfl) (by simp [aa])) (fun W2 s z xs hk=>nomatch hk) (fun B s z xs hk=>nomatch hk)⟩
noncomputable def Mc(K A:PZ):SX.Cx:={ P:=Tryz.prog,R:=fun _ f xs v=>f=52∧∃ (u:Value) (ls:List bX),xs=[⟨u,9,dn ls⟩]∧ls.length≤9223372036854775807∧v=.int .i64 (cf ls),shp:=BP,K:=K,A:=A,trm:=true }
theorem Oz(K A:PZ):(Mc K A).Ok:=by
 refine SX.Cx.bP (fun _=>rfl) ?_
 intro K f xs v W hR hrd hKf
 obtain⟨rfl,u,ls,rfl,hl,rfl⟩:=hR
 obtain⟨A,n,c,rfl,h2,h3,h4⟩:=eF (hrd ⟨u,9,dn ls⟩ (by simp))
 exact(zU ls A n c W h2 (by omega) h3).mono fun e w' h=>al rfl h
def tB:SX.Tree :=(.df (.len false) [(.q 1)] .one
(.df (.bin .lss 3) [(.q 3),(.i 1)] .one
(.br 4 []
(.ret (.k (.bool false)) [] [])
(.df (.len false) [(.q 1)] .one
(.df (.bin .gtr 3) [(.q 5),(.i 64)] .one
(.br 6 []
(.ret (.k (.bool false)) [] [])
(.df (.len false) [(.q 2)] .one
(.df (.len false) [(.q 1)] .one
(.df (.bin .neq 3) [(.q 7),(.q 8)] .one
(.br 9 []
(.ret (.k (.bool false)) [] [])
(.df (.call 52 [(.ext 9)]) [(.q 1)] .one
(.df (.bin .neq 32) [(.q 10),(.i 0)] .one
(.br 11 []
(.ret (.k (.bool false)) [] [])
(.loop [(.i 0)] [.one]
(.df (.len false) [(.q 1)] .one
(.df (.bin .lss 3) [(.q 12),(.q 13)] .one
(.br 14 []
(.df .bnd [(.q 1),(.q 12)] .one
(.df .bnd [(.q 1),(.q 12)] .one
(.df (.elem 9 1) [(.q 1),(.q 12)] .one
(.df (.bin .neq 3) [(.q 17),(.q 0)] .one
(.br 18 []
(.ret (.k (.bool false)) [] [])
(.df .bnd [(.q 2),(.q 12)] .one
(.df (.elem 1 0) [(.q 2),(.q 12)] .one
(.df (.bin .geq 3) [(.q 20),(.i 0)] .one
(.br 21 []
(.df (.bin .leq 3) [(.q 20),(.i 1099511627776)] .one
(.df .not [(.q 22)] .one
(.br 23 []
(.ret (.k (.bool false)) [] [])
(.df (.bin .add 3) [(.q 12),(.i 1)] .one
(.again 0 [(.q 24)])))))
(.ret (.k (.bool false)) [] []))))))))))
(.ret (.k (.bool true)) [] []))))))))))))))))))
def B7:List SX.V:=[.x 0 [],.x 1 [],.x 2 []]
def Fa:jl:=⟨fun f=>true,[⟨22,4,[(.s 7,.one)]⟩],0,100⟩
theorem GU(K A:PZ):PY (Mc K A) Fa 22 Tryz.f22 B7 [.one,.one,.one]=tB:=by kernel_rfl
theorem Gu(ls:List bX)(ss:List Int)(person:Int)(A:Option Addr)(n c:Nat)(B:Option Addr)(m d:Nat)(w:World)(hr:Rd w 9 A n (dn ls))(hc:n≤c)(hr2:Rd w 1 B m (fw ss))(hd:m≤d)(hl:n≤1000000000)(hm:m≤1000000000):RT 22 #[.int .i64 person,.slice A n c,.slice B m d] w (.bool (decide (aQ ls ss person))):=by
 refine PK (GU (KW w) P0) [.int .i64 person,.slice A n c,.slice B m d] (Oz _ _) Tryz.func22 ?_ ?_
 ·exact fun W hW v z xs h=>h W hW
 have hA:=SX.rd_some hr
 have hB:=SX.rd_some hr2
 have hln:ls.length=n:=by have:=hr.1;rw [dO]at this;omega
 have hlm:ss.length=m:=by have:=hr2.1;rw [dy]at this;omega
 have hK1:KW w (.slice A n c) 9 (dn ls):=fun W hW=>⟨hr.aD hW,hc⟩
 have hK2:KW w (.slice B m d) 1 (fw ss):=fun W hW=>⟨hr2.aD hW,hd⟩
 unfold tB
 refine PF (.int .i64 (n:Int)) ?_
 refine PF (.bool (decide ((n:Int)<1))) ?_
 refine PH (decide ((n:Int)<1)) (fun g1=>?_) (fun g1=>?_)
 ·have g1:(n:Int)<1:=by simpa using g1
  rw [decide_eq_false fun h:aQ ls ss person=>by have:=h.1;omega]
  exact PI (.bool false) rfl
 have g1:¬ (n:Int)<1:=by simpa using g1
 refine PF (.int .i64 (n:Int)) ?_
 refine PF (.bool (decide ((n:Int)>64))) ?_
 refine PH (decide ((n:Int)>64)) (fun g2=>?_) (fun g2=>?_)
 ·have g2:64<(n:Int):=by simpa using g2
  rw [decide_eq_false fun h:aQ ls ss person=>by have:=h.2.1;omega]
  exact PI (.bool false) rfl
 have g2:¬ 64<(n:Int):=by simpa using g2
 refine PF (.int .i64 (m:Int)) ?_
 refine PF (.int .i64 (n:Int)) ?_
 refine PF (.bool ((m:Int) != (n:Int))) ?_
 refine PH ((m:Int) != (n:Int)) (fun g3=>?_) (fun g3=>?_)
 ·have g3:(m:Int)≠(n:Int):=by simpa using g3
  rw [decide_eq_false fun h:aQ ls ss person=>g3 (by have:=h.2.2.1;omega)]
  exact PI (.bool false) rfl
 have g3:(m:Int)=(n:Int):=by simpa using g3
 refine PG (.int .i64 (cf ls)) (fun α=>⟨[⟨.slice A n c,9,dn ls⟩],⟨by kernel_rfl,rfl,cast (by kernel_rfl) hK1,trivial⟩,⟨rfl,_,ls,rfl,by omega,rfl⟩,af rfl⟩) ?_
 refine PF (.bool ((cf ls:Int) != 0)) ?_
 refine PH ((cf ls:Int) != 0) (fun g4=>?_) (fun g4=>?_)
 ·have g4:cf ls≠0:=by simpa using g4
  rw [decide_eq_false fun h:aQ ls ss person=>g4 h.2.2.2.1.1]
  exact PI (.bool false) rfl
 have g4:cf ls=0:=by simpa using g4
 refine bC (fun xs=>∃ k:Nat,k≤n∧xs=[.int .i64 (k:Int)]∧(∀ y∈ls.take k,y.person=person)∧∀ s∈ss.take k,ga s) (fun xs=>match xs with|.int _ k::_=>n-k.toNat|_=>0) (fun α=>⟨0,by omega,by kernel_rfl,by simp,by simp⟩) ?_
 rintro xs-⟨k,hk,rfl,hI,hJ⟩
 refine PF (.int .i64 (n:Int)) ?_
 refine PJ (.bool (decide (k<n))) (cW k n) ?_
 refine PH (decide (k<n)) (fun h1=>?_) (fun h1=>?_)
 ·have h1:k<n:=by simpa using h1
  obtain⟨x,hx⟩:∃ x,ls[k]?=some x:=⟨_,List.getElem?_eq_getElem (by omega)⟩
  obtain⟨s,hs⟩:∃ s,ss[k]?=some s:=⟨_,List.getElem?_eq_getElem (by omega)⟩
  refine PQ A n c k hA h1 ?_
  refine PQ A n c k hA h1 ?_
  refine PG (.int .i64 x.person) (fun α=>bx (o:=1) (v:=.int .i64 x.person) (f:=aV) (l:=ls) (A:=A) (n:=n) (c:=c) (j:=k) (z:=x) (fun _=>rfl) hA (by kernel_rfl) (by kernel_rfl) h1 (cast (by kernel_rfl) hK1) hx (by decide) (by kernel_rfl)) ?_
  refine PF (.bool ((x.person:Int) != person)) ?_
  refine PH ((x.person:Int) != person) (fun h2=>?_) (fun h2=>?_)
  ·have h2:x.person≠person:=by simpa using h2
   rw [decide_eq_false fun h:aQ ls ss person=>h2 (h.2.2.2.1.2 x (List.mem_of_getElem? hx))]
   exact PI (.bool false) rfl
  have h2:x.person=person:=by simpa using h2
  refine PQ B m d k hB (by omega) ?_
  refine PG (.int .i64 s) (fun α=>bx (o:=0) (v:=.int .i64 s) (f:=fun k:Int=>[Value.int .i64 k]) (l:=ss) (A:=B) (n:=m) (c:=d) (j:=k) (z:=s) (fun _=>rfl) hB (by kernel_rfl) (by kernel_rfl) (by omega) (cast (by kernel_rfl) hK2) hs (by decide) (by kernel_rfl)) ?_
  refine PF (.bool (decide (s≥0))) ?_
  refine PH (decide (s≥0)) (fun h3=>?_) (fun h3=>?_)
  ·have h3:0≤s:=by simpa using h3
   refine PF (.bool (decide (s≤1099511627776))) ?_
   refine PF (.bool (!decide (s≤1099511627776))) ?_
   refine PH (!decide (s≤1099511627776)) (fun h4=>?_) (fun h4=>?_)
   ·have h4:¬ s≤1099511627776:=by simpa using h4
    rw [decide_eq_false fun h:aQ ls ss person=>h4 (h.2.2.2.2 s (List.mem_of_getElem? hs)).2]
    exact PI (.bool false) rfl
   have h4:s≤1099511627776:=by simpa using h4
   refine PJ (.int .i64 ((k+1:Nat):Int)) (db (a:=k) (b:=1) (d:=k+1) rfl (by omega)) ?_
   exact bg rfl (fun α=>⟨k+1,by omega,by kernel_rfl,HE hx hI h2,HE hs hJ ⟨h3,h4⟩⟩) (fun α=>cast (by kernel_rfl) (show n-((k+1:Nat):Int).toNat<n-(k:Int).toNat by omega))
  have h3:¬ s≥0:=by simpa using h3
  rw [decide_eq_false fun h:aQ ls ss person=>h3 (h.2.2.2.2 s (List.mem_of_getElem? hs)).1]
  exact PI (.bool false) rfl
 have h1:¬ k<n:=by simpa using h1
 rw [List.take_of_length_le (by omega)]at hI hJ
 have hyes:aQ ls ss person:=⟨by omega,by omega,by omega,⟨g4,hI⟩,hJ⟩
 rw [decide_eq_true hyes]
 exact PI (.bool true) rfl
def NM(K:PZ)(f:FuncId)(xs:List SX.Arg)(Q:Value→List SX.Arg→Prop):Prop:=f=36∧∃ (k s:Int) (x:bX),xs=[⟨.int .i64 k,0,[]⟩,⟨hO x,0,[]⟩,⟨.int .i64 s,0,[]⟩]∧(∀ z∈aU k x s,z.fits)∧∀ A n c,Q (.slice A n c) [⟨.slice A n c,1,(aI (aU k x s)).flatMap c8⟩]
noncomputable def CL(nb:Nat)(K A:PZ):SX.Cx:={ nsh:=fun f=>if f=36 then some .one else none,Rn:=NM,nb:=nb,P:=Tryz.prog,R:=fun _ _ _ _=>False,shp:=fun _=>none,K:=K,A:=A,trm:=true,tl:=[36] }
theorem OA(nb:Nat)(K A:PZ):(CL nb K A).Ok:=by
 refine SX.Cx.oB (fun _=>rfl) (fun K f xs v W hR _ _=>hR.elim) fun f sh hs K xs Q W h hrd hK=>?_
 obtain⟨rfl,k,s,x,rfl,hf,hQ⟩:=h
 have hs:some SX.Sh.one=some sh:=hs
 cases hs
 refine(DH k s x W hf).mono fun e w' ⟨h1,hdr,h2,⟨A2,n2,c2,h3,_⟩,h4,h5⟩=>?_
 subst h3
 refine⟨h1,_,_,h2,rfl,hQ A2 n2 c2,fun y hy=>?_⟩
 obtain rfl:y=⟨.slice A2 n2 c2,1,(aI (aU k x s)).flatMap c8⟩:=by simpa using hy
 exact⟨h4,h5.resolve_right fun⟨y,hy,_⟩=>nomatch hy⟩
def nl:SX.Tree :=(.loop [(.i 0),(.cat [])] [.one,.any]
(.df (.len false) [(.q 0)] .one
(.df (.bin .lss 3) [(.q 2),(.q 4)] .one
(.br 5 []
(.df .bnd [(.q 0),(.q 2)] .one
(.df (.elems 9 0 9) [(.q 0),(.q 2)] (.ag 9)
(.df .bnd [(.q 1),(.q 2)] .one
(.df (.elem 1 0) [(.q 1),(.q 2)] .one
(.df (.callq 36 [.no,.no,.no]) [(.q 2),(.a (PN 7 0 9)),(.q 9)] .one
(.df (.dR 1 24 (.own 1 [(.q 10)])) [(.cat [(.q 3)]),(.sl 3 0 1 1)] .any
(.df (.bin .add 3) [(.q 2),(.i 1)] .one
(.again 0 [(.q 12),(.cat [(.q 3),(.q 11)])]))))))))
(.ret (.row 2) [none,none,(some ⟨[(.q 3)],46,(.row 1)⟩)] [])))))
def uh:List SX.V:=[.x 0 [],.x 1 []]
def wH:jl:=⟨fun f=>f != 36,[⟨24,3,[(.s 6,.one),(.s 5,.row 1 46)]⟩],12,100⟩
theorem x6(nb:Nat)(K A:PZ):PY (CL nb K A) wH 24 Tryz.f24 uh [.one,.one]=nl:=by kernel_rfl
theorem xO(ls:List bX)(ss:List Int)(A:Option Addr)(n c:Nat)(B:Option Addr)(m d:Nat)(w:World)(hr:Rd w 9 A n (dn ls))(hc:n≤c)(hr2:Rd w 1 B m (fw ss))(hd:m≤d)(hnm:ls.length=ss.length)(hl:ls.length≤1000000)(hf:∀ i,i<ls.length→∀ z∈aU (i:Int) (ls.getD i default) (ss.getD i 0),z.fits):Calls Tryz.prog 24 #[.slice A n c,.slice B m d] w fun e w'=>Below w.heap.size w w'∧∃ (hdr:Value)(hs:List lm),e=.returned hdr∧hs.length=ls.length∧az w w' [] hdr 1 (hs.flatMap bj)∧∀ j h,hs[j]?=some h→az w w' [] (IK h) 1 ((jf ls ss j).flatMap c8):=by
 refine PK (x6 w.heap.size (KW w) P0) [.slice A n c,.slice B m d] (OA _ _ _) Tryz.func24 ?_ ?_ ⟨rfl,Nat.le_refl _⟩
 ·exact fun W hW v z xs h=>h W hW
 have hA:=SX.rd_some hr
 have hB:=SX.rd_some hr2
 have hln:ls.length=n:=by have:=hr.1;rw [dO]at this;omega
 have hlm:ss.length=m:=by
  have h1:=hr2.1
  have h2:(fw ss).length=ss.length*1:=SX.aB (f:=fun k:Int=>[Value.int .i64 k]) (fun _=>rfl) ss
  omega
 have hK1:∀ N,((CL w.heap.size (KW w) P0).plus N).K (.slice A n c) 9 (dn ls):=fun N=>lL (C:=CL w.heap.size (KW w) P0) fun W hW=>⟨hr.aD hW,hc⟩
 have hK2:∀ N,((CL w.heap.size (KW w) P0).plus N).K (.slice B m d) 1 (fw ss):=fun N=>lL (C:=CL w.heap.size (KW w) P0) fun W hW=>⟨hr2.aD hW,hd⟩
 unfold nl
 refine pF (fun xs N=>∃ hs:List lm,xs=[.int .i64 ((hs.length:Nat):Int),.agg (hs.flatMap bj).toArray]∧hs.length≤n∧∀ j h,hs[j]?=some h→(⟨IK h,1,(jf ls ss j).flatMap c8⟩:SX.Arg)∈N) (fun xs=>match xs with|.int _ i::_=>n-i.toNat|_=>0) (fun _=>rfl) (fun α=>⟨[],(fun y hy=>nomatch hy),[],by kernel_rfl,by simp,fun j h hh=>nomatch hh⟩) ?_
 rintro xs N-⟨hs,rfl,hle,hN⟩
 refine PF (.int .i64 (n:Int)) ?_
 refine PJ (.bool (decide (hs.length<n))) (cW hs.length n) ?_
 refine PH (decide (hs.length<n)) (fun h1=>?_) (fun h1=>?_)
 ·have h1:hs.length<n:=by simpa using h1
  obtain⟨x,hx⟩:∃ x,ls[hs.length]?=some x:=⟨_,List.getElem?_eq_getElem (by omega)⟩
  obtain⟨s,hs1⟩:∃ s,ss[hs.length]?=some s:=⟨_,List.getElem?_eq_getElem (by omega)⟩
  have hxd:ls.getD hs.length default=x:=by rw [List.getD_eq_getElem?_getD,hx];rfl
  have hsd:ss.getD hs.length 0=s:=by rw [List.getD_eq_getElem?_getD,hs1];rfl
  have hfi:=hf hs.length (by omega)
  have hT:jf ls ss hs.length=aI (aU ((hs.length:Nat):Int) x s):=by unfold jf;rw [hxd,hsd]
  rw [hxd,hsd]at hfi
  refine PQ A n c hs.length hA h1 ?_
  refine PR (f:=aV) (l:=ls) (hO x) A n c hs.length x hA h1 (hK1 _) hx ?_
  refine PQ B m d hs.length hB (by omega) ?_
  refine PG (.int .i64 s) (fun α=>bx (o:=0) (v:=.int .i64 s) (f:=fun k:Int=>[Value.int .i64 k]) (l:=ss) (A:=B) (n:=m) (c:=d) (j:=hs.length) (z:=s) (fun _=>rfl) hB (by kernel_rfl) (by kernel_rfl) (by omega) (hK2 _) hs1 (by decide) (by kernel_rfl)) ?_
  refine gJ (fun v N3=>∃ A2 n2 c2,v=.slice A2 n2 c2∧N3=[⟨.slice A2 n2 c2,1,(jf ls ss hs.length).flatMap c8⟩]) (fun _=>rfl) (fun α=>⟨[⟨.int .i64 ((hs.length:Nat):Int),0,[]⟩,⟨hO x,0,[]⟩,⟨.int .i64 s,0,[]⟩],PV,rfl,_,s,x,rfl,hfi,fun A2 n2 c2=>⟨A2,n2,c2,rfl,by rw [hT]⟩⟩) ?_
  rintro _ _-⟨A2,n2,c2,rfl,rfl⟩
  refine PG (.agg ([((A2,n2,c2):lm)].flatMap bj).toArray) (fun α=>av (f:=bj) (l1:=hs) (l2:=[((A2,n2,c2):lm)]) (fun _=>rfl) eP (by decide) (bq (j:=3) (by kernel_rfl)) (aG (by kernel_rfl)) (by simp;omega) (by simp;omega)) ?_
  refine PJ (.int .i64 ((hs.length+1:Nat):Int)) (db (a:=hs.length) (b:=1) (d:=hs.length+1) rfl (by omega)) ?_
  exact bk fun α=>⟨rfl,_,(fun y hy=>hy),⟨hs++[(A2,n2,c2)],Eq.trans (b:=[.int .i64 ((hs.length+1:Nat):Int),.agg ([Value.agg (hs.flatMap bj).toArray,.agg ([((A2,n2,c2):lm)].flatMap bj).toArray].flatMap aa).toArray]) (by kernel_rfl) (by simp [aa]),by simp;omega,fun j h hh=>by
   rcases Nat.lt_or_ge j hs.length with hj|hj
   ·rw [List.getElem?_append_left hj]at hh
    exact List.mem_append_right _ (hN j h hh)
   rw [List.getElem?_append_right hj]at hh
   have hj2:j=hs.length:=by have:=(List.getElem?_eq_some_iff.1 hh).1;simp at this;omega
   subst hj2
   simp at hh
   subst hh
   exact List.mem_append_left _ (List.mem_singleton.2 rfl)⟩,cast (by kernel_rfl) (show n-((hs.length+1:Nat):Int).toNat<n-((hs.length:Nat):Int).toNat by omega)⟩
 have h1:¬ hs.length<n:=by simpa using h1
 refine aY fun α W _ hrow hS=>⟨hS.below,_,hs,by kernel_rfl,by omega,az.row hS (n:=2) (b:=(⟨[(.x 3 [])],46,(.row 1)⟩:ae)) (by kernel_rfl) rfl (hrow 2 _ (by kernel_rfl)) (Eq.trans (b:=[Value.agg (hs.flatMap bj).toArray].flatMap aa) (by kernel_rfl) (by simp [aa])),fun j h hh=>?_⟩
 have hN2:=hS.fact (p:=SX.NF _) (List.mem_append.2 (.inr (List.mem_cons_of_mem _ (List.mem_cons_self ..)))) ⟨IK h,1,(jf ls ss j).flatMap c8⟩ (hN j h hh)
 exact⟨⟨h.1,h.2.1,h.2.2,rfl,hN2.1.2⟩,hN2.1,.inl hN2.2⟩
def J4(K:PZ)(f:FuncId)(xs:List SX.Arg)(Q:Value→List SX.Arg→Prop):Prop:=f=24∧∃ (u1 u2:Value) (ls:List bX) (ss:List Int),xs=[⟨u1,9,dn ls⟩,⟨u2,1,fw ss⟩]∧ls.length=ss.length∧ls.length≤1000000∧(∀ i,i<ls.length→∀ z∈aU (i:Int) (ls.getD i default) (ss.getD i 0),z.fits)∧∀ A n c hs,hs.length=ls.length→Q (.slice A n c) (rX (.slice A n c) hs ls ss)
theorem BH{K:PZ}{f:FuncId}{xs:List SX.Arg}{Q:Value→List SX.Arg→Prop}{W:World}(h:J4 K f xs Q)(hrd:∀ x∈xs,x.rd W)(hK:∀ s sz cells,K s sz cells→SX.Arg.rd W ⟨s,sz,cells⟩):Calls Tryz.prog f (xs.map SX.Arg.v).toArray W fun e W'=>Below W.heap.size W W'∧∃ v N,e=.returned v∧SX.Sh.one.fit v=true∧Q v N∧∀ y∈N,y.rd W'∧fR W.heap.size y.v:=by
 obtain⟨rfl,u1,u2,ls,ss,rfl,hnm,hl,hf,hQ⟩:=h
 obtain⟨A,n,c,rfl,h1,h2⟩:=bG (hrd ⟨u1,9,dn ls⟩ (by simp))
 obtain⟨B,m,d,rfl,h3,h4⟩:=bG (hrd ⟨u2,1,fw ss⟩ (by simp))
 refine(xO ls ss A n c B m d W h1 h2 h3 h4 hnm hl hf).mono fun e w' ⟨hb,hdr,hs,he,hl2,⟨⟨A2,n2,c2,hh,_⟩,g4,g5⟩,hh3⟩=>?_
 subst hh
 refine⟨hb,_,_,he,rfl,hQ A2 n2 c2 hs hl2,fun y hy=>?_⟩
 rcases List.mem_cons.1 hy with rfl|hy
 ·rw [Gq]
  exact⟨g4,g5.resolve_right fun⟨y,hy,_⟩=>nomatch hy⟩
 obtain⟨p,hp,rfl⟩:=List.mem_map.1 hy
 obtain⟨j,t,ht,rfl⟩:=lg hp
 obtain⟨_,g6,g7⟩:=hh3 j t ht
 exact⟨g6,g7.resolve_right fun⟨y,hy,_⟩=>nomatch hy⟩
def NJ(f:FuncId)(xs:List SX.Arg)(v:Value):Prop:=f=22∧∃ (u1 u2:Value) (ls:List bX) (ss:List Int) (person:Int),xs=[⟨.int .i64 person,0,[]⟩,⟨u1,9,dn ls⟩,⟨u2,1,fw ss⟩]∧ls.length≤1000000000∧ss.length≤1000000000∧v=.bool (decide (aQ ls ss person))
def Pp(K:PZ)(f:FuncId)(xs:List SX.Arg)(v:Value):Prop :=
 NJ f xs v ∨
 (f=23∧∃ (u:Value) (ps:List Pb),xs=[⟨u,1,ps.map (·.1)⟩]∧(∀ p∈ps,K p.1 1 (p.2.flatMap c8))∧ps≠[]∧ps.length≤1000000∧(∀ p∈ps,p.2.length≤17592186044416)∧v=ec (dQ (ps.map gF))) ∨
 (f=26∧∃ (person count E S:Int) (root:Dg),xs=[⟨bp person count root E S,0,[]⟩]∧(∀ z∈bF person count root,z.fits)∧v=.agg ((aI (bF person count root)).flatMap c8).toArray) ∨
 (f=25∧∃ (key:Int) (u:Value) (X:List W8),xs=[⟨.int .i64 key,0,[]⟩,⟨u,1,X.flatMap c8⟩]∧X.length≤1048576∧v=.tuple #[.agg #[.int .i64 (cx key (bt X)).1,.int .i64 (cx key (bt X)).2.1],.int .i64 (cx key (bt X)).2.2])
theorem tn{f:FuncId}{xs:List SX.Arg}{v:Value}{W:World}(h:NJ f xs v)(hrd:∀ x∈xs,x.rd W):Calls Tryz.prog f (xs.map SX.Arg.v).toArray W fun e w'=>e=.returned v∧Below W.heap.size W w':=by
 obtain⟨rfl,u1,u2,ls,ss,person,rfl,hl,hl2,rfl⟩:=h
 obtain⟨A,n,c,rfl,h1,h2,h3⟩:=eF (hrd ⟨u1,9,dn ls⟩ (by simp))
 obtain⟨B,m,d,rfl,h4,h5⟩:=bG (hrd ⟨u2,1,fw ss⟩ (by simp))
 exact Gu ls ss person A n c B m d W h1 h2 h4 h5 (by omega) (by have:=h4.1;rw [dy]at this;omega)
noncomputable def CM(nb:Nat)(K A:PZ):SX.Cx:={ nsh:=fun f=>if f=24 then some .one else none,Rn:=J4,nb:=nb,P:=Tryz.prog,R:=Pp,shp:=BP,K:=K,A:=A,trm:=true }
theorem OB(nb:Nat)(K A:PZ):(CM nb K A).Ok:=by
 refine SX.Cx.oB (fun _=>rfl) ?_ fun f sh hs K xs Q W h hrd hK=>?_
 case refine_2 =>
  have hf:=h.1
  subst hf
  have hs:some SX.Sh.one=some sh:=hs
  cases hs
  exact BH h hrd hK
 intro K f xs v W hR hrd hKf
 rcases hR with hR|⟨rfl,u,ps,rfl,hk,h0,hl,hp,rfl⟩|⟨rfl,person,count,E,S,root,rfl,hf,rfl⟩|⟨rfl,key,u,X,rfl,hX,rfl⟩
 ·have hf:=hR.1
  exact(tn hR hrd).mono fun e w' h=>al (by subst hf;rfl) h
 ·obtain⟨A,n,c,rfl,h1,h2⟩:=bG (hrd ⟨u,1,ps.map (·.1)⟩ (by simp))
  exact(DP ps A n c W h1 h2 h0 hl (fun p hm=>hKf _ _ _ (hk p hm)) hp).mono fun e w' h=>al rfl h
 ·exact Calls.mono (xU person count E S root W hf) fun e w' h=>az.uS rfl h
 obtain⟨A,a,e,rfl,h1,h2⟩:=bG (hrd ⟨u,1,X.flatMap c8⟩ (by simp))
 exact(DS key (bt X) A a e W (by rw [oE];exact h1) h2 (by rw [kP];exact hX)).mono fun e w' h=>al rfl h
def rH:SX.Tree :=(.df (.bin .lss 3) [(.q 0),(.i 1)] .one
(.br 4 []
(.ret (.t [(.a ([(.i 0),(.i 0)]++PP 32 (.k (.int .u8 0))++[(.i 0),(.i 0)])),(.i 110)]) [none] [])
(.df (.bin .geq 3) [(.q 0),(.i 1073741789)] .one
(.br 5 []
(.ret (.t [(.a ([(.i 0),(.i 0)]++PP 32 (.k (.int .u8 0))++[(.i 0),(.i 0)])),(.i 110)]) [none] [])
(.df (.call 22 [.no,(.ext 9),(.ext 1)]) [(.q 1),(.q 2),(.q 3)] .one
(.df .not [(.q 6)] .one
(.br 7 []
(.ret (.t [(.a ([(.i 0),(.i 0)]++PP 32 (.k (.int .u8 0))++[(.i 0),(.i 0)])),(.i 350)]) [none] [])
(.df (.len false) [(.q 2)] .one
(.df (.callq 24 [(.ext 9),(.ext 1)]) [(.q 2),(.q 3)] .one
(.df (.call 23 [(.ext 1)]) [(.q 9)] (.ag 32)
(.df (.call 26 [.no]) [(.a ([(.q 1),(.q 8)]++PN 10 0 32++[(.i 0),(.i 0)]))] (.sl 1)
(.df (.call 25 [.no,(.row 1 [(.q 11)])]) [(.q 0),(.row 2)] (.tp [(.ag 2),.one])
(.ret (.t [(.a [(.q 1),(.q 8),(.x 10 [0]),(.x 10 [1]),(.x 10 [2]),(.x 10 [3]),(.x 10 [4]),(.x 10 [5]),(.x 10 [6]),(.x 10 [7]),(.x 10 [8]),(.x 10 [9]),(.x 10 [10]),(.x 10 [11]),(.x 10 [12]),(.x 10 [13]),(.x 10 [14]),(.x 10 [15]),(.x 10 [16]),(.x 10 [17]),(.x 10 [18]),(.x 10 [19]),(.x 10 [20]),(.x 10 [21]),(.x 10 [22]),(.x 10 [23]),(.x 10 [24]),(.x 10 [25]),(.x 10 [26]),(.x 10 [27]),(.x 10 [28]),(.x 10 [29]),(.x 10 [30]),(.x 10 [31]),(.x 12 [0,0]),(.x 12 [0,1])]),(.i 0)]) [none,none,none] [])))))))))))))
def yY:List SX.V:=[.x 0 [],.x 1 [],.x 2 [],.x 3 []]
def Cw:jl:=⟨fun f=>f != 24,[],12,100⟩
theorem Ef(nb:Nat)(K A:PZ):PY (CM nb K A) Cw 8 Tryz.f8 yY [.one,.one,.one,.one]=rH:=by kernel_rfl
theorem DI(key person:Int)(ls:List bX)(ss:List Int)(A:Option Addr)(n c:Nat)(B:Option Addr)(m d:Nat)(w:World)(hr:Rd w 9 A n (dn ls))(hc:n≤c)(hr2:Rd w 1 B m (fw ss))(hd:m≤d)(hl:n≤1000000000)(hm:m≤1000000000)(hp : -9223372036854775808≤person∧person≤9223372036854775807)(hlf:aQ ls ss person→∀ i,i<ls.length→∀ z∈aU (i:Int) (ls.getD i default) (ss.getD i 0),z.fits):RT 8 #[.int .i64 key,.int .i64 person,.slice A n c,.slice B m d] w (dE key person ls ss):=by
 refine PK (Ef w.heap.size (KW w) P0) [.int .i64 key,.int .i64 person,.slice A n c,.slice B m d] (OB _ _ _) Tryz.func8 ?_ ?_ ⟨rfl,Nat.le_refl _⟩
 ·exact fun W hW v z xs h=>h W hW
 have hln:ls.length=n:=by have:=hr.1;rw [dO]at this;omega
 have hlm:ss.length=m:=by have:=hr2.1;rw [dy]at this;omega
 have hK1:KW w (.slice A n c) 9 (dn ls):=fun W hW=>⟨hr.aD hW,hc⟩
 have hK2:KW w (.slice B m d) 1 (fw ss):=fun W hW=>⟨hr2.aD hW,hd⟩
 unfold rH
 refine PF (.bool (decide (key<1))) ?_
 refine PH (decide (key<1)) (fun g=>?_) (fun g1=>?_)
 ·have e:dE key person ls ss=.tuple #[bp 0 0 (fun _=>0) 0 0,.int .i64 110]:=if_pos (.inl (of_decide_eq_true g))
  rw [e]
  exact PI (.tuple #[bp 0 0 (fun _=>0) 0 0,.int .i64 110]) rfl
 refine PF (.bool (decide (key≥1073741789))) ?_
 refine PH (decide (key≥1073741789)) (fun g=>?_) (fun g2=>?_)
 ·have e:dE key person ls ss=.tuple #[bp 0 0 (fun _=>0) 0 0,.int .i64 110]:=if_pos (.inr (of_decide_eq_true g))
  rw [e]
  exact PI (.tuple #[bp 0 0 (fun _=>0) 0 0,.int .i64 110]) rfl
 have g1:=of_decide_eq_false g1
 have g2:=of_decide_eq_false g2
 refine PG (.bool (decide (aQ ls ss person))) (fun α=>⟨[⟨.int .i64 person,0,[]⟩,⟨.slice A n c,9,dn ls⟩,⟨.slice B m d,1,fw ss⟩],⟨by kernel_rfl,by kernel_rfl,by kernel_rfl,rfl,cast (by kernel_rfl) hK1,by kernel_rfl,rfl,cast (by kernel_rfl) hK2,trivial⟩,.inl ⟨rfl,_,_,ls,ss,person,rfl,by omega,by omega,rfl⟩,af rfl⟩) ?_
 refine PF (.bool (!decide (aQ ls ss person))) ?_
 refine PH (!decide (aQ ls ss person)) (fun g=>?_) (fun g3=>?_)
 ·have g:¬ aQ ls ss person:=by simpa using g
  have e:dE key person ls ss=.tuple #[bp 0 0 (fun _=>0) 0 0,.int .i64 350]:=by unfold dE;rw [if_neg (by omega),if_neg g]
  rw [e]
  exact PI (.tuple #[bp 0 0 (fun _=>0) 0 0,.int .i64 350]) rfl
 have g3:aQ ls ss person:=by simpa using g3
 have hlf:=hlf g3
 have g3':=g3
 obtain⟨q1,q2,q3,_⟩:=g3
 refine PF (.int .i64 (n:Int)) ?_
 refine gJ (fun v N=>∃ A1 n1 c1 hs,List.length (α:=lm) hs=ls.length∧v=.slice A1 n1 c1∧N=rX (.slice A1 n1 c1) hs ls ss) (fun _=>rfl) (fun α=>⟨[⟨.slice A n c,9,dn ls⟩,⟨.slice B m d,1,fw ss⟩],⟨by kernel_rfl,rfl,cast (by kernel_rfl) hK1,by kernel_rfl,rfl,cast (by kernel_rfl) hK2,trivial⟩,rfl,_,_,ls,ss,rfl,by omega,by omega,hlf,fun A1 n1 c1 hs h=>⟨A1,n1,c1,hs,h,rfl,rfl⟩⟩) ?_
 rintro _ _-⟨A1,n1,c1,hs,hhs,rfl,rfl⟩
 have hN:∀ y∈rX (.slice A1 n1 c1) hs ls ss,((CM w.heap.size (KW w) P0).plus (rX (.slice A1 n1 c1) hs ls ss++(CM w.heap.size (KW w) P0).N)).K y.v y.sz y.cells:=fun y hy=>lC (List.mem_append_left _ hy)
 have hN0:=hN _ (List.mem_cons_self ..)
 have hNp:∀ p∈nC hs ls ss,((CM w.heap.size (KW w) P0).plus (rX (.slice A1 n1 c1) hs ls ss++(CM w.heap.size (KW w) P0).N)).K p.1 1 (p.2.flatMap c8):=fun p hm=>hN ⟨p.1,1,p.2.flatMap c8⟩ (List.mem_cons_of_mem _ (List.mem_map.2 ⟨p,hm,rfl⟩))
 have hpn:nC hs ls ss≠[]:=fun h=>by have h2:=ld hs ls ss;rw [h]at h2;simp at h2;omega
 have hpt:∀ p∈nC hs ls ss,p.2≠[]∧p.2.length≤17592186044416:=fun p hm=>by
  obtain⟨j,t,ht,rfl⟩:=lg hm
  have hj:=(List.getElem?_eq_some_iff.1 ht).1
  have h1:=fN (hlf j (by omega)) (by simp [aU])
  exact⟨vy ls ss j,Nat.le_of_lt (show(jf ls ss j).length<17592186044416 from h1)⟩
 have hpl:=ld hs ls ss
 refine PG (ec (dQ (jB ls ss))) (fun α=>⟨[⟨.slice A1 n1 c1,1,(nC hs ls ss).map (·.1)⟩],⟨by kernel_rfl,rfl,cast (by kernel_rfl) hN0,trivial⟩,.inr (.inl ⟨rfl,_,nC hs ls ss,rfl,hNp,hpn,by omega,(fun p hm=>(hpt p hm).2),by rw [pz hhs]⟩),af rfl⟩) ?_
 have hsf:=jL (root:=dQ (jB ls ss)) (count:=(n:Int)) hp (by omega)
 have hsl:=qT hsf
 have e:dE key person ls ss=.tuple #[bp person (n:Int) (dQ (jB ls ss)) (cx key (bt (aI (bF person (n:Int) (dQ (jB ls ss)))))).1 (cx key (bt (aI (bF person (n:Int) (dQ (jB ls ss)))))).2.1,.int .i64 (cx key (bt (aI (bF person (n:Int) (dQ (jB ls ss)))))).2.2]:=by
  unfold dE
  rw [if_neg (by omega),if_pos g3',hln]
 rw [e]
 generalize dQ (jB ls ss)=root at *
 refine aK (.agg ((aI (bF person (n:Int) root)).flatMap c8).toArray) (fun α=>⟨[⟨bp person (n:Int) root 0 0,0,[]⟩],PT,.inr (.inr (.inl ⟨rfl,person,n,0,0,root,rfl,hsf,rfl⟩)),af rfl⟩) (cC _) ?_
 generalize aI (bF person (n:Int) root)=X at *
 have he0:=Eu (secret:=key) (tx:=bt X) (by omega) (by omega)
 generalize hG:cx key (bt X)=G at *
 refine PG (.tuple #[.agg #[.int .i64 G.1,.int .i64 G.2.1],.int .i64 G.2.2]) (fun α=>⟨[⟨.int .i64 key,0,[]⟩,⟨(α 2).h,1,X.flatMap c8⟩],⟨by kernel_rfl,by kernel_rfl,Eq.trans (dT (α 2).h 1 (X.flatMap c8)) (by kernel_rfl),trivial⟩,.inr (.inr (.inr ⟨rfl,key,_,X,rfl,hsl,by rw [hG]⟩)),af rfl⟩) ?_
 exact PI (.tuple #[bp person (n:Int) root G.1 G.2.1,.int .i64 0]) (by rw [he0])
def NN(K:PZ)(f:FuncId)(xs:List SX.Arg)(Q:Value→List SX.Arg→Prop):Prop :=
 J4 K f xs Q ∨
 (f=28∧∃ (u:Value) (ps:List Pb) (i:Nat),xs=[⟨u,1,ps.map (·.1)⟩,⟨.int .i64 (i:Int),0,[]⟩]∧(∀ p∈ps,K p.1 1 (p.2.flatMap c8))∧i<ps.length∧ps.length≤65536∧(∀ p∈ps,p.2.length≤17592186044416)∧∀ A n c,Q (.tuple #[.slice A n c,.int .i64 0]) [⟨.slice A n c,32,aT (cg (ps.map gF) i)⟩])
def MD:FuncId→Option SX.Sh:=fun f=>if f=24 then some .one else if f=28 then some (.tp [.one,.one])else none
noncomputable def lz(nb:Nat)(K A:PZ):SX.Cx:={ nsh:=MD,Rn:=NN,nb:=nb,P:=Tryz.prog,R:=fun _=>NJ,shp:=BP,K:=K,A:=A,trm:=true }
theorem OC(nb:Nat)(K A:PZ):(lz nb K A).Ok:=by
 refine SX.Cx.oB (fun _=>rfl) ?_ fun f sh hs K xs Q W h hrd hK=>?_
 case refine_2 =>
  rcases h with h|⟨rfl,u,ps,i,rfl,hk,hi,hl,hp,hQ⟩
  ·have hf:=h.1
   subst hf
   have hs:some SX.Sh.one=some sh:=hs
   cases hs
   exact BH h hrd hK
  have hs:some (SX.Sh.tp [.one,.one])=some sh:=hs
  cases hs
  obtain⟨A,n,c,rfl,h1,h2⟩:=bG (hrd ⟨u,1,ps.map (·.1)⟩ (by simp))
  refine(Ag ps i A n c W h1 h2 hi hl (fun p hm=>hK _ _ _ (hk p hm)) hp).mono fun e w' ⟨hb,hdr,he,⟨⟨A2,n2,c2,hh,_⟩,g4,g5⟩⟩=>?_
  subst hh
  refine⟨hb,_,_,he,rfl,hQ A2 n2 c2,fun y hy=>?_⟩
  obtain rfl:y=⟨.slice A2 n2 c2,32,aT (cg (ps.map gF) i)⟩:=by simpa using hy
  exact⟨g4,g5.resolve_right fun⟨y,hy,_⟩=>nomatch hy⟩
 intro K f xs v W hR hrd hKf
 have hf:=hR.1
 exact(tn hR hrd).mono fun e w' h=>al (by subst hf;rfl) h
def rJ:SX.Tree :=(.df (.call 22 [.no,(.ext 9),(.ext 1)]) [(.q 0),(.q 1),(.q 2)] .one
(.df .not [(.q 4)] .one
(.br 5 []
(.ret (.t [(.a (PP 11 (.i 0)++[(.k (.slice none 0 0))])),(.i 350)]) [none] [])
(.df (.bin .lss 3) [(.q 3),(.i 0)] .one
(.br 6 []
(.ret (.t [(.a (PP 11 (.i 0)++[(.k (.slice none 0 0))])),(.i 1)]) [none] [])
(.df (.len false) [(.q 1)] .one
(.df (.bin .geq 3) [(.q 3),(.q 7)] .one
(.br 8 []
(.ret (.t [(.a (PP 11 (.i 0)++[(.k (.slice none 0 0))])),(.i 1)]) [none] [])
(.df (.callq 24 [(.ext 9),(.ext 1)]) [(.q 1),(.q 2)] .one
(.df (.callq 28 [(.ext 1),.no]) [(.q 9),(.q 3)] (.tp [.one,.one])
(.df .bnd [(.q 2),(.q 3)] .one
(.df (.elem 1 0) [(.q 2),(.q 3)] .one
(.df .bnd [(.q 1),(.q 3)] .one
(.df (.elems 9 0 9) [(.q 1),(.q 3)] (.ag 9)
(.ret (.t [(.a ([(.q 3),(.q 12)]++PN 14 0 9++[(.x 10 [0])])),(.i 0)]) [none] [])))))))))))))))
def y0:List SX.V:=[.x 0 [],.x 1 [],.x 2 [],.x 3 []]
def Cz:jl:=⟨fun f=>f != 24 && f != 28,[],12,100⟩
theorem Ei(nb:Nat)(K A:PZ):PY (lz nb K A) Cz 10 Tryz.f10 y0 [.one,.one,.one,.one]=rJ:=by kernel_rfl
theorem DN(person:Int)(ls:List bX)(ss:List Int)(at_:Int)(A:Option Addr)(n c:Nat)(B:Option Addr)(m d:Nat)(w:World)(hr:Rd w 9 A n (dn ls))(hc:n≤c)(hr2:Rd w 1 B m (fw ss))(hd:m≤d)(hl:n≤1000000000)(hm:m≤1000000000)(hlf:aQ ls ss person→∀ i,i<ls.length→∀ z∈aU (i:Int) (ls.getD i default) (ss.getD i 0),z.fits):Calls Tryz.prog 10 #[.int .i64 person,.slice A n c,.slice B m d,.int .i64 at_] w fun e w'=>Below w.heap.size w w'∧∃ hdr,e=.returned (.tuple #[dm (bB person ls ss at_).k (bB person ls ss at_).s (bB person ls ss at_).x hdr,.int .i64 (bB person ls ss at_).e])∧az w w' [] hdr 32 (aT (bB person ls ss at_).p):=by
 refine PK (Ei w.heap.size (KW w) P0) [.int .i64 person,.slice A n c,.slice B m d,.int .i64 at_] (OC _ _ _) Tryz.func10 ?_ ?_ ⟨rfl,Nat.le_refl _⟩
 ·exact fun W hW v z xs h=>h W hW
 have hA:=SX.rd_some hr
 have hB:=SX.rd_some hr2
 have hln:ls.length=n:=by have:=hr.1;rw [dO]at this;omega
 have hlm:ss.length=m:=by have:=hr2.1;rw [dy]at this;omega
 have hK1:KW w (.slice A n c) 9 (dn ls):=fun W hW=>⟨hr.aD hW,hc⟩
 have hK2:KW w (.slice B m d) 1 (fw ss):=fun W hW=>⟨hr2.aD hW,hd⟩
 unfold rJ
 refine PG (.bool (decide (aQ ls ss person))) (fun α=>⟨[⟨.int .i64 person,0,[]⟩,⟨.slice A n c,9,dn ls⟩,⟨.slice B m d,1,fw ss⟩],⟨by kernel_rfl,by kernel_rfl,by kernel_rfl,rfl,cast (by kernel_rfl) hK1,by kernel_rfl,rfl,cast (by kernel_rfl) hK2,trivial⟩,⟨rfl,_,_,ls,ss,person,rfl,by omega,by omega,rfl⟩,af rfl⟩) ?_
 refine PF (.bool (!decide (aQ ls ss person))) ?_
 refine PH (!decide (aQ ls ss person)) (fun g=>?_) (fun g3=>?_)
 ·have g:¬ aQ ls ss person:=by simpa using g
  have e:bB person ls ss at_=⟨0,0,default,[],350⟩:=if_neg g
  rw [e]
  exact aY fun α W _ _ hS=>⟨hS.below,.slice none 0 0,by kernel_rfl,az.nil⟩
 have g3:aQ ls ss person:=by simpa using g3
 have hlf:=hlf g3
 obtain⟨q1,q2,q3,_⟩:=id g3
 refine PF (.bool (decide (at_<0))) ?_
 refine PH (decide (at_<0)) (fun g=>?_) (fun g1=>?_)
 ·have g:=of_decide_eq_true g
  have e:bB person ls ss at_=⟨0,0,default,[],1⟩:=by unfold bB;rw [if_pos g3,if_neg (by omega)]
  rw [e]
  exact aY fun α W _ _ hS=>⟨hS.below,.slice none 0 0,by kernel_rfl,az.nil⟩
 have g1:=of_decide_eq_false g1
 refine PF (.int .i64 (n:Int)) ?_
 refine PF (.bool (decide (at_≥(n:Int)))) ?_
 refine PH (decide (at_≥(n:Int))) (fun g=>?_) (fun g2=>?_)
 ·have g:=of_decide_eq_true g
  have e:bB person ls ss at_=⟨0,0,default,[],1⟩:=by unfold bB;rw [if_pos g3,if_neg (by omega)]
  rw [e]
  exact aY fun α W _ _ hS=>⟨hS.below,.slice none 0 0,by kernel_rfl,az.nil⟩
 have g2:=of_decide_eq_false g2
 obtain⟨k,rfl⟩:∃ k:Nat,at_=(k:Int):=⟨at_.toNat,by omega⟩
 have hk:k<n:=by omega
 obtain⟨x,hx⟩:∃ x,ls[k]?=some x:=⟨_,List.getElem?_eq_getElem (by omega)⟩
 obtain⟨s,hsk⟩:∃ s,ss[k]?=some s:=⟨_,List.getElem?_eq_getElem (by omega)⟩
 have e:bB person ls ss (k:Int)=⟨(k:Int),s,x,cg (jB ls ss) k,0⟩:=by
  unfold bB
  rw [if_pos g3,if_pos (by omega),Int.toNat_natCast,List.getD_eq_getElem?_getD,hsk,List.getD_eq_getElem?_getD,hx]
  rfl
 rw [e]
 refine gJ (fun v N=>∃ A1 n1 c1 hs,List.length (α:=lm) hs=ls.length∧v=.slice A1 n1 c1∧N=rX (.slice A1 n1 c1) hs ls ss) (fun _=>rfl) (fun α=>⟨[⟨.slice A n c,9,dn ls⟩,⟨.slice B m d,1,fw ss⟩],⟨by kernel_rfl,rfl,cast (by kernel_rfl) hK1,by kernel_rfl,rfl,cast (by kernel_rfl) hK2,trivial⟩,.inl ⟨rfl,_,_,ls,ss,rfl,by omega,by omega,hlf,fun A1 n1 c1 hs h=>⟨A1,n1,c1,hs,h,rfl,rfl⟩⟩⟩) ?_
 rintro _ _-⟨A1,n1,c1,hs,hhs,rfl,rfl⟩
 have hN:∀ y∈rX (.slice A1 n1 c1) hs ls ss,((lz w.heap.size (KW w) P0).plus (rX (.slice A1 n1 c1) hs ls ss++(lz w.heap.size (KW w) P0).N)).K y.v y.sz y.cells:=fun y hy=>lC (List.mem_append_left _ hy)
 have hN0:=hN _ (List.mem_cons_self ..)
 have hNp:∀ p∈nC hs ls ss,((lz w.heap.size (KW w) P0).plus (rX (.slice A1 n1 c1) hs ls ss++(lz w.heap.size (KW w) P0).N)).K p.1 1 (p.2.flatMap c8):=fun p hm=>hN ⟨p.1,1,p.2.flatMap c8⟩ (List.mem_cons_of_mem _ (List.mem_map.2 ⟨p,hm,rfl⟩))
 have hpt:∀ p∈nC hs ls ss,p.2≠[]∧p.2.length≤17592186044416:=fun p hm=>by
  obtain⟨j,t,ht,rfl⟩:=lg hm
  have hj:=(List.getElem?_eq_some_iff.1 ht).1
  have h1:=fN (hlf j (by omega)) (by simp [aU])
  exact⟨vy ls ss j,Nat.le_of_lt (show(jf ls ss j).length<17592186044416 from h1)⟩
 have hpl:=ld hs ls ss
 refine gJ (fun v N=>∃ A2 n2 c2,v=.tuple #[.slice A2 n2 c2,.int .i64 0]∧N=[⟨.slice A2 n2 c2,32,aT (cg (jB ls ss) k)⟩]) (fun _=>rfl) (fun α=>⟨[⟨.slice A1 n1 c1,1,(nC hs ls ss).map (·.1)⟩,⟨.int .i64 (k:Int),0,[]⟩],⟨by kernel_rfl,rfl,cast (by kernel_rfl) hN0,by kernel_rfl,by kernel_rfl,trivial⟩,.inr ⟨rfl,_,nC hs ls ss,k,rfl,hNp,by omega,by omega,(fun p hm=>(hpt p hm).2),fun A2 n2 c2=>⟨A2,n2,c2,rfl,by rw [pz hhs]⟩⟩⟩) ?_
 rintro _ _-⟨A2,n2,c2,rfl,rfl⟩
 have hK1P:(((lz w.heap.size (KW w) P0).plus (rX (.slice A1 n1 c1) hs ls ss++(lz w.heap.size (KW w) P0).N)).plus ([⟨.slice A2 n2 c2,32,aT (cg (jB ls ss) k)⟩]++((lz w.heap.size (KW w) P0).plus (rX (.slice A1 n1 c1) hs ls ss++(lz w.heap.size (KW w) P0).N)).N)).K (.slice A n c) 9 (dn ls):=lL (lL (C:=lz w.heap.size (KW w) P0) hK1)
 have hK2P:(((lz w.heap.size (KW w) P0).plus (rX (.slice A1 n1 c1) hs ls ss++(lz w.heap.size (KW w) P0).N)).plus ([⟨.slice A2 n2 c2,32,aT (cg (jB ls ss) k)⟩]++((lz w.heap.size (KW w) P0).plus (rX (.slice A1 n1 c1) hs ls ss++(lz w.heap.size (KW w) P0).N)).N)).K (.slice B m d) 1 (fw ss):=lL (lL (C:=lz w.heap.size (KW w) P0) hK2)
 refine PQ B m d k hB (by omega) ?_
 refine PG (.int .i64 s) (fun α=>bx (o:=0) (v:=.int .i64 s) (f:=fun k:Int=>[Value.int .i64 k]) (l:=ss) (A:=B) (n:=m) (c:=d) (j:=k) (z:=s) (fun _=>rfl) hB (by kernel_rfl) (by kernel_rfl) (by omega) (cast (by kernel_rfl) hK2P) hsk (by decide) (by kernel_rfl)) ?_
 refine PQ A n c k hA hk ?_
 refine PR (f:=aV) (l:=ls) (hO x) A n c k x hA hk (cast (by kernel_rfl) hK1P) hx ?_
 refine aY fun α W _ hrow hS=>⟨hS.below,.slice A2 n2 c2,by kernel_rfl,?_⟩
 have hN:=hS.fact (p:=SX.NF _) (List.mem_append.2 (.inr (List.mem_cons_of_mem _ (List.mem_cons_self ..)))) ⟨.slice A2 n2 c2,32,aT (cg (jB ls ss) k)⟩ (List.mem_cons_self ..)
 exact⟨⟨A2,n2,c2,rfl,hN.1.2⟩,hN.1,.inl hN.2⟩
theorem K0{w:World}:KW w (.slice none 0 0) 32 (aT []):=fun W hW=>mZ
def rv:SX.Tree :=(.df (.call 7 [.no,.no,(.own 9 [(.i 1),(.i 3),(.i 0),(.i 5),(.i 9),(.i 7),(.i 3),(.i 0),(.i 2),(.i 4),(.i 3),(.i 0),(.i 0),(.i 9),(.i 7),(.i 4),(.i 0),(.i 0)]),(.own 1 [(.i 7),(.i 9)])]) [(.i 5),(.i 3),(.sl 0 0 2 2),(.sl 1 0 2 2)] (.tp [(.ag 36),.one])
(.df (.callq 9 [.no,(.own 9 [(.i 1),(.i 3),(.i 0),(.i 5),(.i 9),(.i 7),(.i 3),(.i 0),(.i 2),(.i 4),(.i 3),(.i 0),(.i 0),(.i 9),(.i 7),(.i 4),(.i 0),(.i 0)]),(.own 1 [(.i 7),(.i 9)]),.no]) [(.i 3),(.sl 0 0 2 2),(.sl 1 0 2 2),(.i 1)] (.tp [(.ag 12),.one])
(.df (.call 7 [.no,.no,(.own 9 []),(.own 1 [])]) [(.i 0),(.i 3),(.k (.slice none 0 0)),(.k (.slice none 0 0))] (.tp [(.ag 36),.one])
(.df (.call 7 [.no,.no,(.own 9 []),(.own 1 [])]) [(.i 1),(.i 3),(.k (.slice none 0 0)),(.k (.slice none 0 0))] (.tp [(.ag 36),.one])
(.df (.call 7 [.no,.no,(.own 9 [(.i 1),(.i 3),(.i 0),(.i 5),(.i 9),(.i 7),(.i 3),(.i 0),(.i 2),(.i 4),(.i 3),(.i 0),(.i 0),(.i 9),(.i 7),(.i 4),(.i 0),(.i 0)]),(.own 1 [(.i 7),(.i 9)])]) [(.i 5),(.i 2),(.sl 0 0 2 2),(.sl 1 0 2 2)] (.tp [(.ag 36),.one])
(.df (.callq 9 [.no,(.own 9 [(.i 1),(.i 3),(.i 0),(.i 5),(.i 9),(.i 7),(.i 3),(.i 0),(.i 2),(.i 4),(.i 3),(.i 0),(.i 0),(.i 9),(.i 7),(.i 4),(.i 0),(.i 0)]),(.own 1 [(.i 7),(.i 9)]),.no]) [(.i 3),(.sl 0 0 2 2),(.sl 1 0 2 2),(.i 2)] (.tp [(.ag 12),.one])
(.df (.bin .neq 32) [(.x 0 [1]),(.i 0)] .one
(.br 6 []
(.ret (.k (.bool false)) (List.replicate 8 none) [])
(.df (.bin .neq 32) [(.x 1 [1]),(.i 0)] .one
(.br 7 []
(.ret (.k (.bool false)) (List.replicate 8 none) [])
(.df (.bin .neq 32) [(.x 2 [1]),(.i 110)] .one
(.br 8 []
(.ret (.k (.bool false)) (List.replicate 8 none) [])
(.df (.bin .neq 32) [(.x 3 [1]),(.i 350)] .one
(.br 9 []
(.ret (.k (.bool false)) (List.replicate 8 none) [])
(.df (.bin .neq 32) [(.x 4 [1]),(.i 350)] .one
(.br 10 []
(.ret (.k (.bool false)) (List.replicate 8 none) [])
(.df (.bin .neq 32) [(.x 5 [1]),(.i 1)] .one
(.br 11 []
(.ret (.k (.bool false)) (List.replicate 8 none) [])
(.df (.bin .add 3) [(.x 1 [0,6]),(.i 1)] .one
(.df (.call 30 [.no,.no]) [(.a [(.x 0 [0,0]),(.x 0 [0,1]),(.x 0 [0,2]),(.x 0 [0,3]),(.x 0 [0,4]),(.x 0 [0,5]),(.x 0 [0,6]),(.x 0 [0,7]),(.x 0 [0,8]),(.x 0 [0,9]),(.x 0 [0,10]),(.x 0 [0,11]),(.x 0 [0,12]),(.x 0 [0,13]),(.x 0 [0,14]),(.x 0 [0,15]),(.x 0 [0,16]),(.x 0 [0,17]),(.x 0 [0,18]),(.x 0 [0,19]),(.x 0 [0,20]),(.x 0 [0,21]),(.x 0 [0,22]),(.x 0 [0,23]),(.x 0 [0,24]),(.x 0 [0,25]),(.x 0 [0,26]),(.x 0 [0,27]),(.x 0 [0,28]),(.x 0 [0,29]),(.x 0 [0,30]),(.x 0 [0,31]),(.x 0 [0,32]),(.x 0 [0,33]),(.x 0 [0,34]),(.x 0 [0,35])]),(.a [(.x 1 [0,0]),(.x 1 [0,1]),(.x 1 [0,2]),(.x 1 [0,3]),(.x 1 [0,4]),(.x 1 [0,5]),(.x 1 [0,6]),(.x 1 [0,7]),(.x 1 [0,8]),(.x 1 [0,9]),(.x 1 [0,10]),(.x 1 [0,11])])] .one
(.df .not [(.q 13)] .one
(.br 14 [] (.bad 70 [])
(.df (.call 30 [.no,.no]) [(.a [(.x 0 [0,0]),(.x 0 [0,1]),(.x 0 [0,2]),(.x 0 [0,3]),(.x 0 [0,4]),(.x 0 [0,5]),(.x 0 [0,6]),(.x 0 [0,7]),(.x 0 [0,8]),(.x 0 [0,9]),(.x 0 [0,10]),(.x 0 [0,11]),(.x 0 [0,12]),(.x 0 [0,13]),(.x 0 [0,14]),(.x 0 [0,15]),(.x 0 [0,16]),(.x 0 [0,17]),(.x 0 [0,18]),(.x 0 [0,19]),(.x 0 [0,20]),(.x 0 [0,21]),(.x 0 [0,22]),(.x 0 [0,23]),(.x 0 [0,24]),(.x 0 [0,25]),(.x 0 [0,26]),(.x 0 [0,27]),(.x 0 [0,28]),(.x 0 [0,29]),(.x 0 [0,30]),(.x 0 [0,31]),(.x 0 [0,32]),(.x 0 [0,33]),(.x 0 [0,34]),(.x 0 [0,35])]),(.a [(.x 1 [0,0]),(.x 1 [0,1]),(.x 1 [0,2]),(.x 1 [0,3]),(.x 1 [0,4]),(.x 1 [0,5]),(.x 1 [0,6]),(.x 1 [0,7]),(.x 1 [0,8]),(.x 1 [0,9]),(.x 1 [0,10]),(.x 1 [0,11])])] .one
(.df .not [(.q 15)] .one
(.br 16 [] (.bad 70 [])
(.df (.bin .neq 3) [(.x 1 [0,0]),(.x 1 [0,0])] .one
(.br 17 [] (.bad 70 [])
(.df (.eqr false 9 (PP 9 (.i .i64))) [(.x 1 [0,2]),(.x 1 [0,3]),(.x 1 [0,4]),(.x 1 [0,5]),(.x 1 [0,6]),(.x 1 [0,7]),(.x 1 [0,8]),(.x 1 [0,9]),(.x 1 [0,10]),(.x 1 [0,2]),(.x 1 [0,3]),(.x 1 [0,4]),(.x 1 [0,5]),(.x 1 [0,6]),(.x 1 [0,7]),(.x 1 [0,8]),(.x 1 [0,9]),(.x 1 [0,10])] .one
(.br 18 []
(.df (.bin .eql 3) [(.x 1 [0,1]),(.x 1 [0,1])] .one
(.br 19 []
(.df (.bin .neq 3) [(.x 0 [0,0]),(.i 3)] .one
(.br 20 []
(.ret (.k (.bool false)) (List.replicate 12 none) [])
(.df (.bin .neq 3) [(.x 0 [0,1]),(.i 2)] .one
(.br 21 []
(.ret (.k (.bool false)) (List.replicate 12 none) [])
(.df (.bin .neq 3) [(.x 1 [0,0]),(.i 1)] .one
(.br 22 []
(.ret (.k (.bool false)) (List.replicate 12 none) [])
(.df (.bin .neq 3) [(.x 1 [0,1]),(.i 9)] .one
(.br 23 []
(.ret (.k (.bool false)) (List.replicate 12 none) [])
(.df (.eqr true 9 (PP 9 (.i .i64))) [(.x 1 [0,2]),(.x 1 [0,3]),(.x 1 [0,4]),(.x 1 [0,5]),(.x 1 [0,6]),(.x 1 [0,7]),(.x 1 [0,8]),(.x 1 [0,9]),(.x 1 [0,10]),(.i 4),(.i 3),(.i 0),(.i 0),(.i 9),(.i 7),(.i 4),(.i 0),(.i 0)] .one
(.br 24 []
(.ret (.k (.bool false)) (List.replicate 12 none) [])
(.df (.len false) [(.x 1 [0,11])] .one
(.df (.bin .neq 3) [(.q 25),(.i 1)] .one
(.br 26 []
(.ret (.k (.bool false)) (List.replicate 12 none) [])
(.df (.call 14 [.no,.no,.no]) [(.i 1024),(.a [(.x 0 [0,0]),(.x 0 [0,1]),(.x 0 [0,2]),(.x 0 [0,3]),(.x 0 [0,4]),(.x 0 [0,5]),(.x 0 [0,6]),(.x 0 [0,7]),(.x 0 [0,8]),(.x 0 [0,9]),(.x 0 [0,10]),(.x 0 [0,11]),(.x 0 [0,12]),(.x 0 [0,13]),(.x 0 [0,14]),(.x 0 [0,15]),(.x 0 [0,16]),(.x 0 [0,17]),(.x 0 [0,18]),(.x 0 [0,19]),(.x 0 [0,20]),(.x 0 [0,21]),(.x 0 [0,22]),(.x 0 [0,23]),(.x 0 [0,24]),(.x 0 [0,25]),(.x 0 [0,26]),(.x 0 [0,27]),(.x 0 [0,28]),(.x 0 [0,29]),(.x 0 [0,30]),(.x 0 [0,31]),(.x 0 [0,32]),(.x 0 [0,33]),(.x 0 [0,34]),(.x 0 [0,35])]),(.a [(.x 1 [0,0]),(.x 1 [0,1]),(.x 1 [0,2]),(.x 1 [0,3]),(.x 1 [0,4]),(.x 1 [0,5]),(.x 1 [0,6]),(.x 1 [0,7]),(.x 1 [0,8]),(.x 1 [0,9]),(.x 1 [0,10]),(.x 1 [0,11])])] .one
(.br 27 []
(.df (.call 14 [.no,.no,.no]) [(.i 1024),(.a [(.x 0 [0,0]),(.x 0 [0,1]),(.x 0 [0,2]),(.x 0 [0,3]),(.x 0 [0,4]),(.x 0 [0,5]),(.x 0 [0,6]),(.x 0 [0,7]),(.x 0 [0,8]),(.x 0 [0,9]),(.x 0 [0,10]),(.x 0 [0,11]),(.x 0 [0,12]),(.x 0 [0,13]),(.x 0 [0,14]),(.x 0 [0,15]),(.x 0 [0,16]),(.x 0 [0,17]),(.x 0 [0,18]),(.x 0 [0,19]),(.x 0 [0,20]),(.x 0 [0,21]),(.x 0 [0,22]),(.x 0 [0,23]),(.x 0 [0,24]),(.x 0 [0,25]),(.x 0 [0,26]),(.x 0 [0,27]),(.x 0 [0,28]),(.x 0 [0,29]),(.x 0 [0,30]),(.x 0 [0,31]),(.x 0 [0,32]),(.x 0 [0,33]),(.x 0 [0,34]),(.x 0 [0,35])]),(.a [(.x 1 [0,0]),(.x 1 [0,1]),(.x 1 [0,2]),(.x 1 [0,3]),(.x 1 [0,4]),(.x 1 [0,5]),(.q 12),(.x 1 [0,7]),(.x 1 [0,8]),(.x 1 [0,9]),(.x 1 [0,10]),(.x 1 [0,11])])] .one
(.df .not [(.q 28)] .one
(.br 29 []
(.df (.call 14 [.no,.no,.no]) [(.i 4),(.a [(.x 0 [0,0]),(.x 0 [0,1]),(.x 0 [0,2]),(.x 0 [0,3]),(.x 0 [0,4]),(.x 0 [0,5]),(.x 0 [0,6]),(.x 0 [0,7]),(.x 0 [0,8]),(.x 0 [0,9]),(.x 0 [0,10]),(.x 0 [0,11]),(.x 0 [0,12]),(.x 0 [0,13]),(.x 0 [0,14]),(.x 0 [0,15]),(.x 0 [0,16]),(.x 0 [0,17]),(.x 0 [0,18]),(.x 0 [0,19]),(.x 0 [0,20]),(.x 0 [0,21]),(.x 0 [0,22]),(.x 0 [0,23]),(.x 0 [0,24]),(.x 0 [0,25]),(.x 0 [0,26]),(.x 0 [0,27]),(.x 0 [0,28]),(.x 0 [0,29]),(.x 0 [0,30]),(.x 0 [0,31]),(.x 0 [0,32]),(.x 0 [0,33]),(.x 0 [0,34]),(.x 0 [0,35])]),(.a [(.x 1 [0,0]),(.x 1 [0,1]),(.x 1 [0,2]),(.x 1 [0,3]),(.x 1 [0,4]),(.x 1 [0,5]),(.x 1 [0,6]),(.x 1 [0,7]),(.x 1 [0,8]),(.x 1 [0,9]),(.x 1 [0,10]),(.x 1 [0,11])])] .one
(.df .not [(.q 30)] .one
(.br 31 []
(.df (.call 14 [.no,.no,.no]) [(.i 4),(.a ([(.i 0),(.i 0)]++PP 32 (.k (.int .u8 0))++[(.i 0),(.i 0)])),(.a (PP 11 (.i 0)++[(.k (.slice none 0 0))]))] .one
(.df .not [(.q 32)] .one
(.ret (.q 33) (List.replicate 12 none) [])))
(.ret (.k (.bool false)) (List.replicate 12 none) []))))
(.ret (.k (.bool false)) (List.replicate 12 none) []))))
(.ret (.k (.bool false)) (List.replicate 12 none) [])))))))))))))))) (.bad 70 []))) (.bad 70 []))))))))))))))))))))))))))))))
def Io:jl:=⟨fun f=>f != 9,[],12,30⟩
theorem D5(nb:Nat)(K A:PZ):(SX.run (jt nb K A) Io 100000 0 (SX.door 5 Tryz.f5 [] []) [.code (Tryz.f5.body.getD .skip),.top Tryz.f5]).eR=rv:=by kernel_rfl
theorem Hk(w:World)(hlaid:Laid w):RT 5 #[] w (.bool true):=by
 refine PK (D5 w.heap.size (KW w) P0) [] (OI _ _ _) Tryz.func5 ?_ ?_ ⟨rfl,Nat.le_refl _⟩
 ·exact fun W hW v z xs h=>h W hW
 have hL:b5 (jt w.heap.size (KW w) P0).K:=fL hlaid
 unfold rv
 refine PG (.tuple #[bp 3 2 gq 492397864 288485507,.int .i64 0]) (fun α=>⟨[⟨.int .i64 5,0,[]⟩,⟨.int .i64 3,0,[]⟩,⟨.slice (some ⟨(α 0).b,0,none⟩) 2 2,9,dn ox⟩,⟨.slice (some ⟨(α 1).b,0,none⟩) 2 2,1,fw qX⟩],PV,.inl ⟨rfl,hL,5,3,_,_,ox,qX,rfl,by decide,by decide,Bk,⟨by decide,by decide⟩,KR.symm⟩,af rfl⟩) ?_
 refine gJ (fun v N=>∃ A c,v=.tuple #[dm 1 9 er (.slice A 1 c),.int .i64 0]∧N=[⟨.slice A 1 c,32,aT [nI]⟩]) (fun _=>rfl) (fun α=>⟨[⟨.int .i64 3,0,[]⟩,⟨.slice (some ⟨(α 0).b,0,none⟩) 2 2,9,dn ox⟩,⟨.slice (some ⟨(α 1).b,0,none⟩) 2 2,1,fw qX⟩,⟨.int .i64 1,0,[]⟩],PV,rfl,hL,3,1,_,_,ox,qX,rfl,by decide,by decide,Bk,fun A c=>⟨A,c,by rw [Gb];rfl,by rw [Gb];rfl⟩⟩) ?_
 rintro _ _-⟨A1,c1,rfl,rfl⟩
 have hL1:b5 ((jt w.heap.size (KW w) P0).plus ([⟨.slice A1 1 c1,32,aT [nI]⟩]++(jt w.heap.size (KW w) P0).N)).K:=rY hL
 refine PG (.tuple #[bp 0 0 (fun _=>0) 0 0,.int .i64 110]) (fun α=>⟨[⟨.int .i64 0,0,[]⟩,⟨.int .i64 3,0,[]⟩,⟨.slice none 0 0,9,dn []⟩,⟨.slice none 0 0,1,fw []⟩],PV,.inl ⟨rfl,hL1,0,3,_,_,[],[],rfl,by decide,by decide,(fun z hz=>nomatch hz),⟨by decide,by decide⟩,F0.symm⟩,af rfl⟩) ?_
 refine PG (.tuple #[bp 0 0 (fun _=>0) 0 0,.int .i64 350]) (fun α=>⟨[⟨.int .i64 1,0,[]⟩,⟨.int .i64 3,0,[]⟩,⟨.slice none 0 0,9,dn []⟩,⟨.slice none 0 0,1,fw []⟩],PV,.inl ⟨rfl,hL1,1,3,_,_,[],[],rfl,by decide,by decide,(fun z hz=>nomatch hz),⟨by decide,by decide⟩,Da.symm⟩,af rfl⟩) ?_
 refine PG (.tuple #[bp 0 0 (fun _=>0) 0 0,.int .i64 350]) (fun α=>⟨[⟨.int .i64 5,0,[]⟩,⟨.int .i64 2,0,[]⟩,⟨.slice (some ⟨(α 0).b,0,none⟩) 2 2,9,dn ox⟩,⟨.slice (some ⟨(α 1).b,0,none⟩) 2 2,1,fw qX⟩],PV,.inl ⟨rfl,hL1,5,2,_,_,ox,qX,rfl,by decide,by decide,Bk,⟨by decide,by decide⟩,zH.symm⟩,af rfl⟩) ?_
 refine gJ (fun v N=>∃ A c,v=.tuple #[dm 0 0 default (.slice A 0 c),.int .i64 1]∧N=[⟨.slice A 0 c,32,aT []⟩]) (fun _=>rfl) (fun α=>⟨[⟨.int .i64 3,0,[]⟩,⟨.slice (some ⟨(α 0).b,0,none⟩) 2 2,9,dn ox⟩,⟨.slice (some ⟨(α 1).b,0,none⟩) 2 2,1,fw qX⟩,⟨.int .i64 2,0,[]⟩],PV,rfl,hL1,3,2,_,_,ox,qX,rfl,by decide,by decide,Bk,fun A c=>⟨A,c,by rw [xC];rfl,by rw [xC];rfl⟩⟩) ?_
 rintro _ _-⟨A2,c2,rfl,rfl⟩
 have hL2:b5 (((jt w.heap.size (KW w) P0).plus ([⟨.slice A1 1 c1,32,aT [nI]⟩]++(jt w.heap.size (KW w) P0).N)).plus ([⟨.slice A2 0 c2,32,aT []⟩]++((jt w.heap.size (KW w) P0).plus ([⟨.slice A1 1 c1,32,aT [nI]⟩]++(jt w.heap.size (KW w) P0).N)).N)).K:=rY hL1
 have hK0:(((jt w.heap.size (KW w) P0).plus ([⟨.slice A1 1 c1,32,aT [nI]⟩]++(jt w.heap.size (KW w) P0).N)).plus ([⟨.slice A2 0 c2,32,aT []⟩]++((jt w.heap.size (KW w) P0).plus ([⟨.slice A1 1 c1,32,aT [nI]⟩]++(jt w.heap.size (KW w) P0).N)).N)).K (.slice none 0 0) 32 (aT []):=lL (lL (C:=jt w.heap.size (KW w) P0) K0)
 have hN1:(⟨.slice A1 1 c1,32,aT [nI]⟩:SX.Arg)∈([⟨.slice A1 1 c1,32,aT [nI]⟩]++(jt w.heap.size (KW w) P0).N):=List.mem_append_left _ (List.mem_cons_self ..)
 have hK1:(((jt w.heap.size (KW w) P0).plus ([⟨.slice A1 1 c1,32,aT [nI]⟩]++(jt w.heap.size (KW w) P0).N)).plus ([⟨.slice A2 0 c2,32,aT []⟩]++((jt w.heap.size (KW w) P0).plus ([⟨.slice A1 1 c1,32,aT [nI]⟩]++(jt w.heap.size (KW w) P0).N)).N)).K (.slice A1 1 c1) 32 (aT [nI]):=lL (lC hN1)
 have f1:∀ z∈aU 1 er 9,z.fits:=jA ⟨by decide,by decide⟩ (by unfold bX.fit cJ;decide) ⟨by decide,by decide⟩
 have f2:∀ z∈aU 1 uI 9,z.fits:=jA ⟨by decide,by decide⟩ (by unfold bX.fit cJ;decide) ⟨by decide,by decide⟩
 have f0:∀ z∈aU 0 default 0,z.fits:=jA ⟨by decide,by decide⟩ (by unfold bX.fit cJ;decide) ⟨by decide,by decide⟩
 have g1:∀ z∈bF 3 2 gq,z.fits:=jL ⟨by decide,by decide⟩ ⟨by decide,by decide⟩
 have g0:∀ z∈bF 0 0 (fun _=>0),z.fits:=jL ⟨by decide,by decide⟩ ⟨by decide,by decide⟩
 have d1:=Ir
 have d2:=Is
 have d3:=Iq
 have d4:=Ip
 have d5:=Fv
 generalize gq=R at *
 refine PF (.bool false) ?_
 refine PH false (fun h=>absurd h (by decide)) (fun _=>?_)
 refine PF (.bool false) ?_
 refine PH false (fun h=>absurd h (by decide)) (fun _=>?_)
 refine PF (.bool false) ?_
 refine PH false (fun h=>absurd h (by decide)) (fun _=>?_)
 refine PF (.bool false) ?_
 refine PH false (fun h=>absurd h (by decide)) (fun _=>?_)
 refine PF (.bool false) ?_
 refine PH false (fun h=>absurd h (by decide)) (fun _=>?_)
 refine PF (.bool false) ?_
 refine PH false (fun h=>absurd h (by decide)) (fun _=>?_)
 refine PF (.int .i64 10) ?_
 refine PG (.bool true) (fun α=>⟨[⟨bp 3 2 R 492397864 288485507,0,[]⟩,⟨dm 1 9 er (.slice A1 1 c1),0,[]⟩],PU,.inr (.inl ⟨rfl,hL2,3,2,492397864,288485507,R,1,9,er,[nI],_,rfl,hK1,f1,by rw [decide_eq_true d5]⟩),af rfl⟩) ?_
 refine PF (.bool false) ?_
 refine PH false (fun h=>absurd h (by decide)) (fun _=>?_)
 refine PG (.bool true) (fun α=>⟨[⟨bp 3 2 R 492397864 288485507,0,[]⟩,⟨dm 1 9 er (.slice A1 1 c1),0,[]⟩],PU,.inr (.inl ⟨rfl,hL2,3,2,492397864,288485507,R,1,9,er,[nI],_,rfl,hK1,f1,by rw [decide_eq_true d5]⟩),af rfl⟩) ?_
 refine PF (.bool false) ?_
 refine PH false (fun h=>absurd h (by decide)) (fun _=>?_)
 refine PF (.bool false) ?_
 refine PH false (fun h=>absurd h (by decide)) (fun _=>?_)
 refine PG (.bool (false ^^ decide (er=er))) (fun α=>gv (f:=aV) j8 (y:=er) (z:=er) (by kernel_rfl) (by kernel_rfl) (by kernel_rfl)) ?_
 refine PH (false ^^ decide (er=er)) (fun _=>?_) (fun h=>absurd h (by decide))
 refine PF (.bool true) ?_
 refine PH true (fun _=>?_) (fun h=>absurd h (by decide))
 refine PF (.bool false) ?_
 refine PH false (fun h=>absurd h (by decide)) (fun _=>?_)
 refine PF (.bool false) ?_
 refine PH false (fun h=>absurd h (by decide)) (fun _=>?_)
 refine PF (.bool false) ?_
 refine PH false (fun h=>absurd h (by decide)) (fun _=>?_)
 refine PF (.bool false) ?_
 refine PH false (fun h=>absurd h (by decide)) (fun _=>?_)
 refine PG (.bool (true ^^ decide (er=er))) (fun α=>gv (f:=aV) j8 (y:=er) (z:=er) (by kernel_rfl) (by kernel_rfl) (by kernel_rfl)) ?_
 refine PH (true ^^ decide (er=er)) (fun h=>absurd h (by decide)) (fun _=>?_)
 refine PF (.int .i64 1) ?_
 refine PF (.bool false) ?_
 refine PH false (fun h=>absurd h (by decide)) (fun _=>?_)
 refine PG (.bool true) (fun α=>⟨[⟨.int .i64 1024,0,[]⟩,⟨bp 3 2 R 492397864 288485507,0,[]⟩,⟨dm 1 9 er (.slice A1 1 c1),0,[]⟩],PV,.inr (.inr ⟨rfl,hL2,1024,3,2,492397864,288485507,R,1,9,er,[nI],_,rfl,hK1,f1,g1,by rw [decide_eq_true d1]⟩),af rfl⟩) ?_
 refine PH true (fun _=>?_) (fun h=>absurd h (by decide))
 refine PG (.bool false) (fun α=>⟨[⟨.int .i64 1024,0,[]⟩,⟨bp 3 2 R 492397864 288485507,0,[]⟩,⟨dm 1 9 uI (.slice A1 1 c1),0,[]⟩],PV,.inr (.inr ⟨rfl,hL2,1024,3,2,492397864,288485507,R,1,9,uI,[nI],_,rfl,hK1,f2,g1,by rw [decide_eq_false d2]⟩),af rfl⟩) ?_
 refine PF (.bool true) ?_
 refine PH true (fun _=>?_) (fun h=>absurd h (by decide))
 refine PG (.bool false) (fun α=>⟨[⟨.int .i64 4,0,[]⟩,⟨bp 3 2 R 492397864 288485507,0,[]⟩,⟨dm 1 9 er (.slice A1 1 c1),0,[]⟩],PV,.inr (.inr ⟨rfl,hL2,4,3,2,492397864,288485507,R,1,9,er,[nI],_,rfl,hK1,f1,g1,by rw [decide_eq_false d3]⟩),af rfl⟩) ?_
 refine PF (.bool true) ?_
 refine PH true (fun _=>?_) (fun h=>absurd h (by decide))
 refine PG (.bool false) (fun α=>⟨[⟨.int .i64 4,0,[]⟩,⟨bp 0 0 (fun _=>0) 0 0,0,[]⟩,⟨dm 0 0 default (.slice none 0 0),0,[]⟩],PV,.inr (.inr ⟨rfl,hL2,4,0,0,0,0,(fun _=>0),0,0,default,[],_,rfl,hK0,f0,g0,by rw [decide_eq_false d4]⟩),af rfl⟩) ?_
 refine PF (.bool true) ?_
 exact PI (.bool true) rfl
def il(n m:Nat):Bool:=(decide (n≤20) || (decide (64≤n) && decide (n≤600))) && (decide (m≤20) || (decide (64≤m) && decide (m≤600)))
def tz:SX.Tree :=(.df (.len false) [(.q 0)] .one
(.df (.bin .leq 3) [(.q 2),(.i 20)] .one
(.br 3 []
(.df (.len false) [(.q 1)] .one
(.df (.bin .leq 3) [(.q 4),(.i 20)] .one
(.br 5 []
(.ret (.k (.bool true)) [] [])
(.df (.len false) [(.q 1)] .one
(.df (.bin .geq 3) [(.q 6),(.i 64)] .one
(.br 7 []
(.df (.len false) [(.q 1)] .one
(.df (.bin .leq 3) [(.q 8),(.i 600)] .one
(.ret (.q 9) [] [])))
(.ret (.k (.bool false)) [] [])))))))
(.df (.len false) [(.q 0)] .one
(.df (.bin .geq 3) [(.q 4),(.i 64)] .one
(.br 5 []
(.df (.len false) [(.q 0)] .one
(.df (.bin .leq 3) [(.q 6),(.i 600)] .one
(.br 7 []
(.df (.len false) [(.q 1)] .one
(.df (.bin .leq 3) [(.q 8),(.i 20)] .one
(.br 9 []
(.ret (.k (.bool true)) [] [])
(.df (.len false) [(.q 1)] .one
(.df (.bin .geq 3) [(.q 10),(.i 64)] .one
(.br 11 []
(.df (.len false) [(.q 1)] .one
(.df (.bin .leq 3) [(.q 12),(.i 600)] .one
(.ret (.q 13) [] [])))
(.ret (.k (.bool false)) [] [])))))))
(.ret (.k (.bool false)) [] []))))
(.ret (.k (.bool false)) [] [])))))))
def B5:List SX.V:=[.x 0 [],.x 1 []]
theorem GS(K A:PZ):PY (wQ K A) ⟨fun f=>true,[],0,100⟩ 6 Tryz.f6 B5 [.one,.one]=tz:=by kernel_rfl
theorem IG(A:Option Addr)(n c:Nat)(B:Option Addr)(m d:Nat)(w:World):RT 6 #[.slice A n c,.slice B m d] w (.bool (il n m)):=by
 refine PK (GS P0 P0) [.slice A n c,.slice B m d] (js _ _) Tryz.func6 (fun _ _ _ _ _ h=>h.elim) ?_
 unfold tz
 refine PF (.int .i64 (n:Int)) ?_
 refine PF (.bool (decide ((n:Int)≤20))) ?_
 refine PH (decide ((n:Int)≤20)) (fun f1=>?_) (fun f1=>?_)
 ·refine PF (.int .i64 (m:Int)) ?_
  refine PF (.bool (decide ((m:Int)≤20))) ?_
  refine PH (decide ((m:Int)≤20)) (fun g1=>?_) (fun g1=>?_)
  ·have e:il n m=true:=by simp only [decide_eq_true_eq,decide_eq_false_iff_not]at *;unfold il;simp;omega
   rw [e]
   exact PI (.bool true) rfl
  refine PF (.int .i64 (m:Int)) ?_
  refine PF (.bool (decide ((m:Int)≥64))) ?_
  refine PH (decide ((m:Int)≥64)) (fun g2=>?_) (fun g2=>?_)
  ·refine PF (.int .i64 (m:Int)) ?_
   refine PF (.bool (decide ((m:Int)≤600))) ?_
   have e:il n m=decide ((m:Int)≤600):=by simp only [decide_eq_true_eq,decide_eq_false_iff_not]at *;unfold il;rw [Bool.eq_iff_iff];simp;omega
   rw [e]
   exact PI (.bool (decide ((m:Int)≤600))) rfl
  have e:il n m=false:=by simp only [decide_eq_true_eq,decide_eq_false_iff_not]at *;unfold il;simp;omega
  rw [e]
  exact PI (.bool false) rfl
 refine PF (.int .i64 (n:Int)) ?_
 refine PF (.bool (decide ((n:Int)≥64))) ?_
 refine PH (decide ((n:Int)≥64)) (fun f2=>?_) (fun f2=>?_)
 ·refine PF (.int .i64 (n:Int)) ?_
  refine PF (.bool (decide ((n:Int)≤600))) ?_
  refine PH (decide ((n:Int)≤600)) (fun f3=>?_) (fun f3=>?_)
  ·refine PF (.int .i64 (m:Int)) ?_
   refine PF (.bool (decide ((m:Int)≤20))) ?_
   refine PH (decide ((m:Int)≤20)) (fun g1=>?_) (fun g1=>?_)
   ·have e:il n m=true:=by simp only [decide_eq_true_eq,decide_eq_false_iff_not]at *;unfold il;simp;omega
    rw [e]
    exact PI (.bool true) rfl
   refine PF (.int .i64 (m:Int)) ?_
   refine PF (.bool (decide ((m:Int)≥64))) ?_
   refine PH (decide ((m:Int)≥64)) (fun g2=>?_) (fun g2=>?_)
   ·refine PF (.int .i64 (m:Int)) ?_
    refine PF (.bool (decide ((m:Int)≤600))) ?_
    have e:il n m=decide ((m:Int)≤600):=by simp only [decide_eq_true_eq,decide_eq_false_iff_not]at *;unfold il;rw [Bool.eq_iff_iff];simp;omega
    rw [e]
    exact PI (.bool (decide ((m:Int)≤600))) rfl
   have e:il n m=false:=by simp only [decide_eq_true_eq,decide_eq_false_iff_not]at *;unfold il;simp;omega
   rw [e]
   exact PI (.bool false) rfl
  have e:il n m=false:=by simp only [decide_eq_true_eq,decide_eq_false_iff_not]at *;unfold il;simp;omega
  rw [e]
  exact PI (.bool false) rfl
 have e:il n m=false:=by simp only [decide_eq_true_eq,decide_eq_false_iff_not]at *;unfold il;simp;omega
 rw [e]
 exact PI (.bool false) rfl
def oR:SX.Tree :=(.df (.len false) [(.q 0)] .one
(.df (.len false) [(.q 1)] .one
(.df (.bin .neq 3) [(.q 2),(.q 3)] .one
(.br 4 []
(.ret (.k (.bool false)) [] [])
(.loop [(.i 0)] [.one]
(.df (.len false) [(.q 0)] .one
(.df (.bin .lss 3) [(.q 5),(.q 6)] .one
(.br 7 []
(.df .bnd [(.q 0),(.q 5)] .one
(.df (.elems 32 0 32) [(.q 0),(.q 5)] (.ag 32)
(.df .bnd [(.q 1),(.q 5)] .one
(.df (.elems 32 0 32) [(.q 1),(.q 5)] (.ag 32)
(.df (.eqr true 32 (PP 32 (.i .u8))) (PN 9 0 32++PN 11 0 32) .one
(.br 12 []
(.ret (.k (.bool false)) [] [])
(.df (.bin .add 3) [(.q 5),(.i 1)] .one
(.again 0 [(.q 13)]))))))))
(.ret (.k (.bool true)) [] [])))))))))
def wy:List SX.V:=[.x 0 [],.x 1 []]
def ze:jl:=⟨fun f=>true,[⟨29,4,[(.s 5,.one)]⟩],0,100⟩
theorem Av(K A:PZ):PY (wQ K A) ze 29 Tryz.f29 wy [.one,.one]=oR:=by kernel_rfl
theorem Ab(p:List Dg)(A:Option Addr)(n c:Nat)(B:Option Addr)(d:Nat)(w:World)(hr:Rd w 32 A n (aT p))(hc:n≤c)(hr2:Rd w 32 B n (aT p))(hd:n≤d)(hn:n≤1000000000):RT 29 #[.slice A n c,.slice B n d] w (.bool true):=by
 refine PK (Av (KW w) P0) [.slice A n c,.slice B n d] (js _ _) Tryz.func29 ?_ ?_
 ·exact fun W hW v z xs h=>h W hW
 have hA:=SX.rd_some hr
 have hB:=SX.rd_some hr2
 have hln:p.length=n:=by have:=hr.1;rw [dv]at this;omega
 have hK1:KW w (.slice A n c) 32 (aT p):=fun W hW=>⟨hr.aD hW,hc⟩
 have hK2:KW w (.slice B n d) 32 (aT p):=fun W hW=>⟨hr2.aD hW,hd⟩
 unfold oR
 refine PF (.int .i64 (n:Int)) ?_
 refine PF (.int .i64 (n:Int)) ?_
 refine PF (.bool ((n:Int) != (n:Int))) ?_
 refine PH ((n:Int) != (n:Int)) (fun h=>absurd h (by simp)) (fun _=>?_)
 refine bC (fun xs=>∃ i:Nat,xs=[.int .i64 (i:Int)]∧i≤n) (fun xs=>match xs with|.int _ k::_=>n-k.toNat|_=>0) (fun α=>⟨0,by kernel_rfl,by omega⟩) ?_
 rintro xs-⟨i,rfl,hi⟩
 refine PF (.int .i64 (n:Int)) ?_
 refine PJ (.bool (decide (i<n))) (cW i n) ?_
 refine PH (decide (i<n)) (fun h1=>?_) (fun h1=>?_)
 ·have h1:i<n:=by simpa using h1
  obtain⟨z,hz⟩:∃ z,p[i]?=some z:=⟨_,List.getElem?_eq_getElem (by omega)⟩
  refine PQ A n c i hA h1 ?_
  refine PR (f:=ah) (l:=p) (ec z) A n c i z hA h1 (cast (by kernel_rfl) hK1) hz ?_
  refine PQ B n d i hB h1 ?_
  refine PR (f:=ah) (l:=p) (ec z) B n d i z hB h1 (cast (by kernel_rfl) hK2) hz ?_
  refine PG (.bool (true ^^ decide (()=()))) (fun α=>gv (β:=Unit) (f:=fun _=>ah z) (fun _ _ _=>rfl) (y:=()) (z:=()) (by kernel_rfl) (by kernel_rfl) (by kernel_rfl)) ?_
  refine PH (true ^^ decide (()=())) (fun h=>absurd h (by decide)) (fun _=>?_)
  refine PJ (.int .i64 ((i+1:Nat):Int)) (db (a:=i) (b:=1) (d:=i+1) rfl (by omega)) ?_
  exact bg rfl (fun α=>⟨i+1,by kernel_rfl,by omega⟩) (fun α=>cast (by kernel_rfl) (show n-((i+1:Nat):Int).toNat<n-(i:Int).toNat by omega))
 exact PI (.bool true) rfl
def Pt(K:PZ)(f:FuncId)(xs:List SX.Arg)(v:Value):Prop:=f=29∧∃ (u1 u2:Value) (p:List Dg),xs=[⟨u1,32,aT p⟩,⟨u2,32,aT p⟩]∧p.length≤1000000000∧v=.bool true
noncomputable def Mk(K A:PZ):SX.Cx:={ P:=Tryz.prog,R:=Pt,shp:=fun f=>if f=29 then some .one else none,K:=K,A:=A,trm:=true }
theorem OH(K A:PZ):(Mk K A).Ok:=by
 refine SX.Cx.bP (fun _=>rfl) ?_
 intro K f xs v W hR hrd hKf
 obtain⟨rfl,u1,u2,p,rfl,hl,rfl⟩:=hR
 obtain⟨A,n,c,rfl,h1,h2⟩:=bG (hrd ⟨u1,32,aT p⟩ (by simp))
 obtain⟨B,m,d,rfl,h3,h4⟩:=bG (hrd ⟨u2,32,aT p⟩ (by simp))
 have e1:=h1.1
 have e2:=h3.1
 rw [dv]at e1 e2
 obtain rfl:n=m:=by omega
 exact(Ab p A n c B d W h1 h2 h3 h4 (by omega)).mono fun e w' h=>al rfl h
def rK:SX.Tree :=(.df (.bin .eql 3) [(.x 0 [0]),(.x 2 [0])] .one
(.br 4 []
(.df (.bin .eql 3) [(.x 0 [1]),(.x 2 [1])] .one
(.br 5 []
(.df (.eqr false 9 (PP 9 (.i .i64))) (PN 0 2 9++PN 2 2 9) .one
(.br 6 []
(.df (.call 29 [(.ext 32),(.ext 32)]) [(.q 1),(.q 3)] .one
(.ret (.q 7) [] []))
(.ret (.k (.bool false)) [] [])))
(.ret (.k (.bool false)) [] [])))
(.ret (.k (.bool false)) [] [])))
def y3:List SX.V:=[.a (((List.range 11).map fun j=>.x 0 [j])++[.x 1 []]),.a (((List.range 11).map fun j=>.x 2 [j])++[.x 3 []])]
def CA:jl:=⟨fun f=>true,[],0,100⟩
theorem Ej(K A:PZ):PY (Mk K A) CA 11 Tryz.f11 y3 [.ag 11,.one,.ag 11,.one]=rK:=by kernel_rfl
theorem DQ(k s:Int)(x:bX)(p:List Dg)(A:Option Addr)(n c:Nat)(B:Option Addr)(m d:Nat)(w:World)(hr:Rd w 32 A n (aT p))(hc:n≤c)(hr2:Rd w 32 B m (aT p))(hd:m≤d)(hn:p.length≤1000000000):RT 11 #[dm k s x (.slice A n c),dm k s x (.slice B m d)] w (.bool true):=by
 refine PK (Ej (KW w) P0) [.agg ([Value.int .i64 k,Value.int .i64 s]++aV x).toArray,.slice A n c,.agg ([Value.int .i64 k,Value.int .i64 s]++aV x).toArray,.slice B m d] (OH _ _) Tryz.func11 ?_ ?_
 ·exact fun W hW v z xs h=>h W hW
 have hK1:KW w (.slice A n c) 32 (aT p):=fun W hW=>⟨hr.aD hW,hc⟩
 have hK2:KW w (.slice B m d) 32 (aT p):=fun W hW=>⟨hr2.aD hW,hd⟩
 unfold rK
 refine PF (.bool ((k:Int) == k)) ?_
 refine PH ((k:Int) == k) (fun _=>?_) (fun h=>absurd h (by simp))
 refine PF (.bool ((s:Int) == s)) ?_
 refine PH ((s:Int) == s) (fun _=>?_) (fun h=>absurd h (by simp))
 refine PG (.bool (false ^^ decide (x=x))) (fun α=>gv (f:=aV) j8 (y:=x) (z:=x) (by kernel_rfl) (by kernel_rfl) (by kernel_rfl)) ?_
 refine PH (false ^^ decide (x=x)) (fun _=>?_) (fun h=>absurd h (by simp))
 refine PG (.bool true) (fun α=>⟨[⟨.slice A n c,32,aT p⟩,⟨.slice B m d,32,aT p⟩],⟨by kernel_rfl,rfl,cast (by kernel_rfl) hK1,by kernel_rfl,rfl,cast (by kernel_rfl) hK2,trivial⟩,⟨rfl,_,_,p,rfl,hn,rfl⟩,af rfl⟩) ?_
 exact PI (.bool true) rfl
def Pa(K:PZ)(f:FuncId)(xs:List SX.Arg)(v:Value):Prop :=
 (f=5∧b5 K∧xs=[]∧v=.bool true) ∨
 (f=6∧∃ (u1 u2:Value) (ls:List bX) (ss:List Int),xs=[⟨u1,9,dn ls⟩,⟨u2,1,fw ss⟩]∧v=.bool (il ls.length ss.length)) ∨
 (f=11∧∃ (k s:Int) (x:bX) (p:List Dg) (h1 h2:Value),xs=[⟨dm k s x h1,0,[]⟩,⟨dm k s x h2,0,[]⟩]∧K h1 32 (aT p)∧K h2 32 (aT p)∧p.length≤1000000000∧v=.bool true) ∨
 (f=8∧∃ (key person:Int) (u1 u2:Value) (ls:List bX) (ss:List Int),xs=[⟨.int .i64 key,0,[]⟩,⟨.int .i64 person,0,[]⟩,⟨u1,9,dn ls⟩,⟨u2,1,fw ss⟩]∧ls.length≤1000000000∧ss.length≤1000000000∧gm ls∧cJ person∧v=dE key person ls ss) ∨
 NL K f xs v
def LF(K:PZ)(f:FuncId)(xs:List SX.Arg)(Q:Value→List SX.Arg→Prop):Prop :=
 J3 K f xs Q ∨
 (f=10∧∃ (person at_:Int) (u1 u2:Value) (ls:List bX) (ss:List Int),xs=[⟨.int .i64 person,0,[]⟩,⟨u1,9,dn ls⟩,⟨u2,1,fw ss⟩,⟨.int .i64 at_,0,[]⟩]∧ls.length≤1000000000∧ss.length≤1000000000∧gm ls∧∀ A c,Q (.tuple #[dm (bB person ls ss at_).k (bB person ls ss at_).s (bB person ls ss at_).x (.slice A (bB person ls ss at_).p.length c),.int .i64 (bB person ls ss at_).e]) [⟨.slice A (bB person ls ss at_).p.length c,32,aT (bB person ls ss at_).p⟩])
theorem Ji{K:PZ}{f:FuncId}{xs:List SX.Arg}{Q:Value→List SX.Arg→Prop}{W:World}(h:LF K f xs Q)(hrd:∀ x∈xs,x.rd W)(hK:∀ s sz cells,K s sz cells→SX.Arg.rd W ⟨s,sz,cells⟩):Calls Tryz.prog f (xs.map SX.Arg.v).toArray W fun e W'=>Below W.heap.size W W'∧∃ v N,e=.returned v∧(SX.Sh.tp [.ag 12,.one]).fit v=true∧Q v N∧∀ y∈N,y.rd W'∧fR W.heap.size y.v:=by
 rcases h with h|⟨rfl,person,at_,u1,u2,ls,ss,rfl,hl,hl2,hf,hQ⟩
 ·exact BG h hrd hK
 obtain⟨A,n,c,rfl,h1,h2,h3⟩:=eF (hrd ⟨u1,9,dn ls⟩ (by simp))
 obtain⟨B,m,d,rfl,h4,h5⟩:=bG (hrd ⟨u2,1,fw ss⟩ (by simp))
 have hm:ss.length=m:=by have:=h4.1;rw [dy]at this;omega
 refine(DN person ls ss at_ A n c B m d W h1 h2 h4 h5 (by omega) (by omega) (jI hf)).mono fun e w' ⟨hb,hdr,he,⟨⟨A2,n2,c2,hh,hc2⟩,g4,g5⟩⟩=>?_
 subst hh
 have hr4:Rd w' 32 A2 n2 (aT (bB person ls ss at_).p):=g4.1
 have e2:n2=(bB person ls ss at_).p.length:=by have:=hr4.1;rw [dv]at this;omega
 subst e2
 refine⟨hb,_,_,he,?_,hQ A2 c2,fun y hy=>?_⟩
 ·generalize bB person ls ss at_=o
  kernel_rfl
 obtain rfl:y=_:=List.mem_singleton.1 hy
 exact⟨⟨hr4,hc2⟩,g5.resolve_right fun⟨y,hy,_⟩=>nomatch hy⟩
def Nd:FuncId→Option SX.Sh:=fun f=>if f∈[5,6,11,14,30]then some .one else if f∈[7,8]then some (.tp [.ag 36,.one])else none
def ME:FuncId→Option SX.Sh:=fun f=>if f=9 then some (.tp [.ag 12,.one])else if f=10 then some (.tp [.ag 12,.one])else none
noncomputable def iN(nb:Nat)(K A:PZ):SX.Cx:={ nsh:=ME,Rn:=LF,nb:=nb,P:=Tryz.prog,R:=Pa,shp:=Nd,K:=K,A:=A,trm:=true }
theorem OJ(nb:Nat)(K A:PZ):(iN nb K A).Ok:=by
 refine SX.Cx.oB (fun _=>rfl) ?_ fun f sh hs K xs Q W h hrd hK=>?_
 case refine_2 =>
  obtain rfl:SX.Sh.tp [.ag 12,.one]=sh:=by
   rcases h with h|h
   ·have hf:=h.1
    subst hf
    exact Option.some.inj hs
   have hf:=h.1
   subst hf
   exact Option.some.inj hs
  exact Ji h hrd hK
 intro K f xs v W hR hrd hKf
 rcases hR with ⟨rfl,hL,rfl,rfl⟩|⟨rfl,u1,u2,ls,ss,rfl,rfl⟩|⟨rfl,k,s,x,p,g1,g2,rfl,k1,k2,hp,rfl⟩|⟨rfl,key,person,u1,u2,ls,ss,rfl,hl,hl2,hf,hp,rfl⟩|hR
 ·exact(Hk W (cV hL hKf)).mono fun e w' h=>al rfl h
 ·obtain⟨A,n,c,rfl,h1,h2,h3⟩:=eF (hrd ⟨u1,9,dn ls⟩ (by simp))
  obtain⟨B,m,d,rfl,h4,h5⟩:=bG (hrd ⟨u2,1,fw ss⟩ (by simp))
  have hm:ss.length=m:=by have:=h4.1;rw [dy]at this;omega
  subst h3 hm
  exact(IG A _ c B _ d W).mono fun e w' h=>al rfl h
 ·obtain⟨A,n,c,rfl,h1,h2⟩:=bG (hKf _ _ _ k1)
  obtain⟨B,m,d,rfl,h3,h4⟩:=bG (hKf _ _ _ k2)
  exact(DQ k s x p A n c B m d W h1 h2 h3 h4 hp).mono fun e w' h=>al rfl h
 ·obtain⟨A,n,c,rfl,h1,h2,h3⟩:=eF (hrd ⟨u1,9,dn ls⟩ (by simp))
  obtain⟨B,m,d,rfl,h4,h5⟩:=bG (hrd ⟨u2,1,fw ss⟩ (by simp))
  have hm:ss.length=m:=by have:=h4.1;rw [dy]at this;omega
  exact(DI key person ls ss A n c B m d W h1 h2 h4 h5 (by omega) (by omega) hp (jI hf)).mono fun e w' h=>al rfl h
 have h:=tq hR hrd hKf
 rcases hR with ⟨rfl,_⟩|⟨rfl,_⟩|⟨rfl,_⟩<;>exact h.mono fun e w' h=>al rfl h
theorem C9(key person:Int)(ls:List bX)(ss:List Int):∃ (a b E S e:Int)(root:Dg),dE key person ls ss=.tuple #[bp a b root E S,.int .i64 e]:=by
 unfold dE
 split
 ·exact⟨_,_,_,_,_,_,rfl⟩
 split
 ·exact⟨_,_,_,_,_,_,rfl⟩
 exact⟨_,_,_,_,_,_,rfl⟩
theorem Gd(person at_:Int)(ls:List bX)(ss:List Int)(hl:ls.length≤1000000):(bB person ls ss at_).p.length≤1000000000:=by
 have key:∀ (N:Nat) (l:List Dg) (i:Nat),l.length≤N→(cg l i).length≤N+1:=by
  intro N
  induction N with
  | zero=>intro l i h;rw [fJ (by omega)];cases l[i^^^1]?<;>simp
  | succ N ih =>
   intro l i h
   by_cases h1:l.length≤1
   ·rw [fJ h1];cases l[i^^^1]?<;>simp
   have hu:=iB l
   have:=ih (gr l) (i / 2) (by omega)
   rw [ja h1,List.length_append]
   cases l[i^^^1]?<;>simp<;>omega
 unfold bB
 split
 ·split
  ·have:=key (jB ls ss).length (jB ls ss) at_.toNat (Nat.le_refl _)
   have e:(jB ls ss).length=ls.length:=by unfold jB;simp
   show(cg (jB ls ss) at_.toNat).length≤_
   omega
  simp
 simp
def ry:SX.Tree :=(.df (.call 5 []) [] .one
(.df .not [(.q 5)] .one
(.br 6 []
(.ret (.k (.bool false)) [] [])
(.df (.call 6 [(.ext 9),(.ext 1)]) [(.q 2),(.q 3)] .one
(.df .not [(.q 7)] .one
(.br 8 []
(.ret (.k (.bool true)) [] [])
(.df (.call 7 [.no,.no,(.ext 9),(.ext 1)]) (PO 0 4) (.tp [(.ag 36),.one])
(.df (.call 8 [.no,.no,(.ext 9),(.ext 1)]) (PO 0 4) (.tp [(.ag 36),.one])
(.df (.callq 9 [.no,(.ext 9),(.ext 1),.no]) (PO 1 4) (.tp [(.ag 12),.one])
(.df (.callq 10 [.no,(.ext 9),(.ext 1),.no]) (PO 1 4) (.tp [(.ag 12),.one])
(.df (.eqr false 36 ([(.i .i64),(.i .i64)]++PP 32 (.i .u8)++[(.i .i64),(.i .i64)])) [(.x 9 [0,0]),(.x 9 [0,1]),(.x 9 [0,2]),(.x 9 [0,3]),(.x 9 [0,4]),(.x 9 [0,5]),(.x 9 [0,6]),(.x 9 [0,7]),(.x 9 [0,8]),(.x 9 [0,9]),(.x 9 [0,10]),(.x 9 [0,11]),(.x 9 [0,12]),(.x 9 [0,13]),(.x 9 [0,14]),(.x 9 [0,15]),(.x 9 [0,16]),(.x 9 [0,17]),(.x 9 [0,18]),(.x 9 [0,19]),(.x 9 [0,20]),(.x 9 [0,21]),(.x 9 [0,22]),(.x 9 [0,23]),(.x 9 [0,24]),(.x 9 [0,25]),(.x 9 [0,26]),(.x 9 [0,27]),(.x 9 [0,28]),(.x 9 [0,29]),(.x 9 [0,30]),(.x 9 [0,31]),(.x 9 [0,32]),(.x 9 [0,33]),(.x 9 [0,34]),(.x 9 [0,35]),(.x 10 [0,0]),(.x 10 [0,1]),(.x 10 [0,2]),(.x 10 [0,3]),(.x 10 [0,4]),(.x 10 [0,5]),(.x 10 [0,6]),(.x 10 [0,7]),(.x 10 [0,8]),(.x 10 [0,9]),(.x 10 [0,10]),(.x 10 [0,11]),(.x 10 [0,12]),(.x 10 [0,13]),(.x 10 [0,14]),(.x 10 [0,15]),(.x 10 [0,16]),(.x 10 [0,17]),(.x 10 [0,18]),(.x 10 [0,19]),(.x 10 [0,20]),(.x 10 [0,21]),(.x 10 [0,22]),(.x 10 [0,23]),(.x 10 [0,24]),(.x 10 [0,25]),(.x 10 [0,26]),(.x 10 [0,27]),(.x 10 [0,28]),(.x 10 [0,29]),(.x 10 [0,30]),(.x 10 [0,31]),(.x 10 [0,32]),(.x 10 [0,33]),(.x 10 [0,34]),(.x 10 [0,35])] .one
(.br 13 []
(.df (.bin .eql 32) [(.x 9 [1]),(.x 10 [1])] .one
(.br 14 []
(.df (.call 11 [.no,.no]) [(.a [(.x 11 [0,0]),(.x 11 [0,1]),(.x 11 [0,2]),(.x 11 [0,3]),(.x 11 [0,4]),(.x 11 [0,5]),(.x 11 [0,6]),(.x 11 [0,7]),(.x 11 [0,8]),(.x 11 [0,9]),(.x 11 [0,10]),(.x 11 [0,11])]),(.a [(.x 12 [0,0]),(.x 12 [0,1]),(.x 12 [0,2]),(.x 12 [0,3]),(.x 12 [0,4]),(.x 12 [0,5]),(.x 12 [0,6]),(.x 12 [0,7]),(.x 12 [0,8]),(.x 12 [0,9]),(.x 12 [0,10]),(.x 12 [0,11])])] .one
(.br 15 []
(.df (.bin .eql 32) [(.x 11 [1]),(.x 12 [1])] .one
(.ret (.q 16) [none,none,none,none] []))
(.ret (.k (.bool false)) [none,none,none,none] [])))
(.ret (.k (.bool false)) [none,none,none,none] [])))
(.ret (.k (.bool false)) [none,none,none,none] [])))))))))))))
def yQ:List SX.V:=[.x 0 [],.x 1 [],.x 2 [],.x 3 [],.x 4 []]
def Cu:jl:=⟨fun f=>f != 9 && f != 10,[],12,30⟩
theorem D6(nb:Nat)(K A:PZ):PY (iN nb K A) Cu 3 Tryz.f3 yQ [.one,.one,.one,.one,.one]=ry:=by kernel_rfl
theorem Hx(key person:Int)(ls:List bX)(A:Option Addr)(n c:Nat)(ss:List Int)(B:Option Addr)(m d:Nat)(at_:Int)(w:World)(hr:Rd w 9 A n (dn ls))(hc:n≤c)(hr2:Rd w 1 B m (fw ss))(hd:m≤d)(hf:gm ls)(hp:cJ person)(hlaid:Laid w):RT 3 #[.int .i64 key,.int .i64 person,.slice A n c,.slice B m d,.int .i64 at_] w (.bool true):=by
 refine PK (D6 w.heap.size (KW w) P0) [.int .i64 key,.int .i64 person,.slice A n c,.slice B m d,.int .i64 at_] (OJ _ _ _) Tryz.func3 ?_ ?_ ⟨rfl,Nat.le_refl _⟩
 ·exact fun W hW v z xs h=>h W hW
 have hL:b5 (iN w.heap.size (KW w) P0).K:=fL hlaid
 have hln:ls.length=n:=by have:=hr.1;rw [dO]at this;omega
 have hlm:ss.length=m:=by have:=hr2.1;rw [dy]at this;omega
 have hK1:KW w (.slice A n c) 9 (dn ls):=fun W hW=>⟨hr.aD hW,hc⟩
 have hK2:KW w (.slice B m d) 1 (fw ss):=fun W hW=>⟨hr2.aD hW,hd⟩
 unfold ry
 refine PG (.bool true) (fun α=>⟨[],trivial,.inl ⟨rfl,hL,rfl,rfl⟩,af rfl⟩) ?_
 refine PF (.bool false) ?_
 refine PH false (fun h=>absurd h (by decide)) (fun _=>?_)
 refine PG (.bool (il ls.length ss.length)) (fun α=>⟨[⟨.slice A n c,9,dn ls⟩,⟨.slice B m d,1,fw ss⟩],⟨by kernel_rfl,rfl,cast (by kernel_rfl) hK1,by kernel_rfl,rfl,cast (by kernel_rfl) hK2,trivial⟩,.inr (.inl ⟨rfl,_,_,ls,ss,rfl,rfl⟩),af rfl⟩) ?_
 refine PF (.bool (!il ls.length ss.length)) ?_
 refine PH (!il ls.length ss.length) (fun _=>?_) (fun hfw=>?_)
 ·exact PI (.bool true) rfl
 have hfw:ls.length≤600∧ss.length≤600:=by simp [il]at hfw;omega
 have hol:=Gd person at_ ls ss (by omega)
 obtain⟨a,b,E,S,e,root,hmk⟩:=C9 key person ls ss
 generalize ho:bB person ls ss at_=o at *
 refine PG (.tuple #[bp a b root E S,.int .i64 e]) (fun α=>⟨[⟨.int .i64 key,0,[]⟩,⟨.int .i64 person,0,[]⟩,⟨.slice A n c,9,dn ls⟩,⟨.slice B m d,1,fw ss⟩],⟨by kernel_rfl,by kernel_rfl,by kernel_rfl,by kernel_rfl,by kernel_rfl,rfl,cast (by kernel_rfl) hK1,by kernel_rfl,rfl,cast (by kernel_rfl) hK2,trivial⟩,.inr (.inr (.inr (.inr (.inl ⟨rfl,hL,key,person,_,_,ls,ss,rfl,by omega,by omega,hf,hp,hmk.symm⟩)))),af rfl⟩) ?_
 refine PG (.tuple #[bp a b root E S,.int .i64 e]) (fun α=>⟨[⟨.int .i64 key,0,[]⟩,⟨.int .i64 person,0,[]⟩,⟨.slice A n c,9,dn ls⟩,⟨.slice B m d,1,fw ss⟩],⟨by kernel_rfl,by kernel_rfl,by kernel_rfl,by kernel_rfl,by kernel_rfl,rfl,cast (by kernel_rfl) hK1,by kernel_rfl,rfl,cast (by kernel_rfl) hK2,trivial⟩,.inr (.inr (.inr (.inl ⟨rfl,key,person,_,_,ls,ss,rfl,by omega,by omega,hf,hp,hmk.symm⟩))),af rfl⟩) ?_
 refine gJ (fun v N=>∃ A2 c2,v=.tuple #[dm o.k o.s o.x (.slice A2 o.p.length c2),.int .i64 o.e]∧N=[⟨.slice A2 o.p.length c2,32,aT o.p⟩]) (fun _=>rfl) (fun α=>⟨[⟨.int .i64 person,0,[]⟩,⟨.slice A n c,9,dn ls⟩,⟨.slice B m d,1,fw ss⟩,⟨.int .i64 at_,0,[]⟩],⟨by kernel_rfl,by kernel_rfl,by kernel_rfl,rfl,cast (by kernel_rfl) hK1,by kernel_rfl,rfl,cast (by kernel_rfl) hK2,by kernel_rfl,by kernel_rfl,trivial⟩,.inl ⟨rfl,hL,person,at_,_,_,ls,ss,rfl,by omega,by omega,hf,fun A2 c2=>⟨A2,c2,by rw [ho],by rw [ho]⟩⟩⟩) ?_
 rintro _ _-⟨A1,c1,rfl,rfl⟩
 have hN1:((iN w.heap.size (KW w) P0).plus ([⟨.slice A1 o.p.length c1,32,aT o.p⟩]++(iN w.heap.size (KW w) P0).N)).K (.slice A n c) 9 (dn ls):=lL (C:=iN w.heap.size (KW w) P0) hK1
 have hN2:((iN w.heap.size (KW w) P0).plus ([⟨.slice A1 o.p.length c1,32,aT o.p⟩]++(iN w.heap.size (KW w) P0).N)).K (.slice B m d) 1 (fw ss):=lL (C:=iN w.heap.size (KW w) P0) hK2
 refine gJ (fun v N=>∃ A2 c2,v=.tuple #[dm o.k o.s o.x (.slice A2 o.p.length c2),.int .i64 o.e]∧N=[⟨.slice A2 o.p.length c2,32,aT o.p⟩]) (fun _=>rfl) (fun α=>⟨[⟨.int .i64 person,0,[]⟩,⟨.slice A n c,9,dn ls⟩,⟨.slice B m d,1,fw ss⟩,⟨.int .i64 at_,0,[]⟩],⟨by kernel_rfl,by kernel_rfl,by kernel_rfl,rfl,cast (by kernel_rfl) hN1,by kernel_rfl,rfl,cast (by kernel_rfl) hN2,by kernel_rfl,by kernel_rfl,trivial⟩,.inr ⟨rfl,person,at_,_,_,ls,ss,rfl,by omega,by omega,hf,fun A2 c2=>⟨A2,c2,by rw [ho],by rw [ho]⟩⟩⟩) ?_
 rintro _ _-⟨A2,c2,rfl,rfl⟩
 have hM1:(⟨.slice A1 o.p.length c1,32,aT o.p⟩:SX.Arg)∈([⟨.slice A1 o.p.length c1,32,aT o.p⟩]++(iN w.heap.size (KW w) P0).N):=List.mem_append_left _ (List.mem_cons_self ..)
 have hM2:(⟨.slice A2 o.p.length c2,32,aT o.p⟩:SX.Arg)∈([⟨.slice A2 o.p.length c2,32,aT o.p⟩]++((iN w.heap.size (KW w) P0).plus ([⟨.slice A1 o.p.length c1,32,aT o.p⟩]++(iN w.heap.size (KW w) P0).N)).N):=List.mem_append_left _ (List.mem_cons_self ..)
 have hP1:(((iN w.heap.size (KW w) P0).plus ([⟨.slice A1 o.p.length c1,32,aT o.p⟩]++(iN w.heap.size (KW w) P0).N)).plus ([⟨.slice A2 o.p.length c2,32,aT o.p⟩]++((iN w.heap.size (KW w) P0).plus ([⟨.slice A1 o.p.length c1,32,aT o.p⟩]++(iN w.heap.size (KW w) P0).N)).N)).K (.slice A1 o.p.length c1) 32 (aT o.p):=lL (lC hM1)
 have hP2:(((iN w.heap.size (KW w) P0).plus ([⟨.slice A1 o.p.length c1,32,aT o.p⟩]++(iN w.heap.size (KW w) P0).N)).plus ([⟨.slice A2 o.p.length c2,32,aT o.p⟩]++((iN w.heap.size (KW w) P0).plus ([⟨.slice A1 o.p.length c1,32,aT o.p⟩]++(iN w.heap.size (KW w) P0).N)).N)).K (.slice A2 o.p.length c2) 32 (aT o.p):=lC hM2
 refine PG (.bool (false ^^ decide (()=()))) (fun α=>gv (β:=Unit) (f:=fun _=>[Value.int .i64 a,.int .i64 b]++ah root++[.int .i64 E,.int .i64 S]) (fun _ _ _=>rfl) (y:=()) (z:=()) (by kernel_rfl) (by kernel_rfl) (by kernel_rfl)) ?_
 refine PH (false ^^ decide (()=())) (fun _=>?_) (fun h=>absurd h (by decide))
 refine PF (.bool ((e:Int) == e)) ?_
 refine PH ((e:Int) == e) (fun _=>?_) (fun h=>absurd h (by simp))
 refine PG (.bool true) (fun α=>⟨[⟨dm o.k o.s o.x (.slice A1 o.p.length c1),0,[]⟩,⟨dm o.k o.s o.x (.slice A2 o.p.length c2),0,[]⟩],PU,.inr (.inr (.inl ⟨rfl,o.k,o.s,o.x,o.p,_,_,rfl,hP1,hP2,hol,rfl⟩)),af rfl⟩) ?_
 refine PH true (fun _=>?_) (fun h=>absurd h (by decide))
 refine PF (.bool ((o.e:Int) == o.e)) ?_
 exact PI (.bool ((o.e:Int) == o.e)) (by simp)
end Go.Proofs.YtidekfgkpindbaaGreatDoor
namespace Go.Proofs.YtidekfgkpindbaaGreatDoor.sealsSpec
open Go Go.ChangeShapes Go.WideShapes Go.ChangeAt Go.RowKit
theorem lifted(os:Os)(started:os.Started)(H:Type)(enc:TypeId×Value→H) :
 ReturnsInHanded {} Tryz.checked os 3 .any (fun w args=>(Rows.sealsSpecSpec.pre enc Tryz.prog Tryz.f3 [] false w args∧laidMetH Tryz.prog xg w)∧sizedMet enc Tryz.prog Tryz.f3 (OpenSpec.ofChange Rows.sealsSpecSpec) false w args)
  (Rows.sealsSpecSpec.post enc Tryz.prog Tryz.f3 false true false false):=by
 refine returnsInHanded_of_change_and (C:=Tryz.checked) (X:=fun w _=>laidMetH Tryz.prog xg w) (fun _ _ _ hh h=>h.of_heap hh) OP started (by kernel_rfl) Tryz.func3
  (ChangeSpec.witness_shaped (enc:=enc) (C:=Tryz.checked) (os:=os) (X:=fun w _=>laidMetH Tryz.prog xg w) false (World.doorLaid Tryz.prog 400 os) #[.int .i64 0,.int .i64 0,.slice none 0 0,.slice none 0 0,.int .i64 0] 8 rfl (World.shaped_of_RefB (by kernel_rfl) (by kernel_rfl)) (by kernel_rfl) (by kernel_rfl) (by kernel_rfl) (Fj os _)) ?_
 intro W base args ds gs before hval0 hW _ _ hL _
 have hval:∀ (j:Nat) t v,Tryz.f3.params[j]?=some t→args[j]?=some v→Value.okWide Tryz.prog W .any base t v:=hval0
 have hW':=hW
 obtain⟨p,q,hA0,hV,rfl,hfz,hnd⟩:=hW
 have hA:DataW.TrodAll enc Tryz.prog W 0 (fun _=>true) true Tryz.f3.params.toList args.toList ds p:=hA0
 rw [Tryz.params3]at hA hval
 obtain⟨v0,vs0,d0,ds0,p0,q0,hargs,rfl,rfl,h0,r0⟩:=trodAll_cons hA
 obtain⟨v1,vs1,d1,ds1,p1,q1,rfl,rfl,rfl,h1,r1⟩:=trodAll_cons r0
 obtain⟨v2,vs2,d2,ds2,p2,q2,rfl,rfl,rfl,h2,r2⟩:=trodAll_cons r1
 obtain⟨v3,vs3,d3,ds3,p3,q3,rfl,rfl,rfl,h3,r3⟩:=trodAll_cons r2
 obtain⟨v4,vs4,d4,ds4,p4,q4,rfl,rfl,rfl,h4,r4⟩:=trodAll_cons r3
 obtain⟨rfl,rfl,rfl⟩:=trodAll_nil r4
 obtain rfl:args=#[v0,v1,v2,v3,v4]:=by cases args;simp_all
 obtain⟨rfl,rfl⟩:=trodVars_none hV
 obtain⟨a0,rfl,rfl,rfl,w0⟩:=open_int Tryz.underlying3 (hval 0 3 v0 rfl rfl) h0
 obtain⟨a1,rfl,rfl,rfl,w1⟩:=open_int Tryz.underlying3 (hval 1 3 v1 rfl rfl) h1
 obtain⟨A2,n2,c2,l2,rfl,hr2,hc2,hm2,hq2⟩:=Ge (hval 2 22 v2 rfl rfl) h2
 obtain⟨A3,n3,c3,l3,rfl,hr3,hc3,hm3⟩:=open_ints (hval 3 23 v3 rfl rfl) h3
 obtain⟨a4,rfl,rfl,rfl,w4⟩:=open_int Tryz.underlying3 (hval 4 3 v4 rfl rfl) h4
 clear hA0 hval0
 have hlaid:=zB hL
 refine(Hx a0 a1 l2 A2 n2 c2 l3 A3 n3 c3 a4 W hr2 hc2 hr3 hc3 (fun z hz=>(hq2 z hz).2.2.1) (FH w1) hlaid).mono fun e W' ⟨he,hb⟩=>?_
 subst he
 exact⟨_,rfl,FU laidOut (by kernel_rfl) rfl hW' hb rfl rfl Tryz.underlying4⟩
theorem over:Rows.sealsSpecRow.holds Tryz.pinned (OpenSpec.ofChange Rows.sealsSpecSpec) :=
 OpenClaim.holds_of_wide 3 Tryz.f3 rfl rfl rfl rfl rfl rfl rfl ⟨rfl,rfl,rfl,rfl,rfl⟩ rfl rfl rfl rfl rfl (by kernel_rfl) Tryz.func3 (by kernel_rfl)
  (of_decide_eq_true (by kernel_rfl)) (by unfold Func.isWrapper;first|(rw [if_pos (by decide +kernel)];kernel_rfl)|(rw [if_neg (by decide +kernel)];exact⟨rfl,rfl⟩))
  (fun os started H enc _=>lifted os started H enc)
theorem proved:Rows.SealsSpecCardSaid :=
 Claim7.holds_tied_plain_at .later [] [.data,.data] true (true, "b17c97499ac8d2360530066be6e8599482f8b417d971fa16015675d4a7c9a428") true
  over (fun _ h=>by cases h) (by kernel_rfl) (fun _ h=>by cases h) sealsSpec_row_tie rfl ⟨rfl,rfl⟩ (by kernel_rfl) rfl
  (fun f fn hf hfn=>by
   obtain rfl:f=3:=Option.some.inj ((show Tryz.prog.funcNamed "kinesphere/kinespherelaw35.SealsSpec" = some 3 by kernel_rfl).symm.trans hf) |>.symm
   obtain rfl:fn=Tryz.f3:=(Option.some.inj (Tryz.func3.symm.trans hfn)).symm
   exact⟨by kernel_rfl,fun j t ht=>by
    rw [Tryz.params3]at ht
    have hm:t∈[3,3,22,23,3]:=by simpa using Array.mem_of_getElem? ht
    have hall:([3,3,22,23,3].all fun u=>!Tryz.prog.wantsStandIn u)=true:=by kernel_rfl
    exact(show Tryz.prog.wantsStandIn t=false by simpa using List.all_eq_true.1 hall t hm)⟩)
  (by kernel_rfl)
#print axioms proved
end Go.Proofs.YtidekfgkpindbaaGreatDoor.sealsSpec
