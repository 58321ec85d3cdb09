/-
  Texts behind the statement, part 3.
-/
import Derived.Test.YtidekfgkpindbaaGreatDoorPC2
import Derived.LoopN
set_option linter.unusedSimpArgs false
set_option linter.unusedVariables false
namespace Go.Proofs.YtidekfgkpindbaaGreatDoor
open Go Go.RowKit
namespace SX
def Kf(C:Cx)(W:World):Prop:=∀ s sz cells,C.K s sz cells→Arg.rd W ⟨s,sz,cells⟩
def Af(C:Cx)(W:World):Prop:=∀ s sz cells,C.A s sz cells→Arg.rd W ⟨s,sz,cells⟩
def Bf(C:Cx)(B:Nat):Prop:=∀ s sz cells,C.A s sz cells→fR B s
def NF(C:Cx)(W:World):Prop:=∀ y∈C.N,y.rd W∧fR C.nb y.v
def ll(C:Cx)(w0:eT)(ps:List (World→Prop)):Prop:=Kf C∈ps∧(∀ W,w0.rt W→Af C W)∧(∀ B,w0.rf B→Bf C B)∧C.nb≤w0.w.heap.size∧(C.N=[]∨NF C∈ps)
def mi(C:Cx)(f:FuncId)(as':List Arg)(W W':World)(hdr:Value)(sz:Nat)(cells:List Value):Prop :=
 (∃ A len cap,hdr=.slice A len cap∧len≤cap)∧Arg.rd W' ⟨hdr,sz,cells⟩ ∧
 (fR W.heap.size hdr∨∃ j∈C.ali f,∃ x,as'[j]?=some x∧(∀ W2,x.rd W2→Arg.rd W2 ⟨hdr,sz,cells⟩)∧∀ B,fR B x.v→fR B hdr)
def Cx.sh(C:Cx)(f:FuncId):Sh:=(C.shp f).getD .one
def LA(C:Cx)(bs:List Nat)(W W':World)(hdr:Value)(sz:Nat)(cells:List Value):Prop :=
 (∃ A len cap,hdr=.slice A len cap∧len≤cap)∧Arg.rd W' ⟨hdr,sz,cells⟩ ∧
 (fR W.heap.size hdr∨∃ s sz' cells',C.K s sz' cells'∧C.A s sz' cells'∧(∀ W2,Arg.rd W2 ⟨s,sz',cells'⟩→Arg.rd W2 ⟨hdr,sz,cells⟩)∧∀ B,fR B s→fR B hdr)
def Cx.O4(C:Cx):Prop:=∀ f as' caps v W (bs:List Nat) (ts:List TypeId) (b:Nat) (j sz:Nat) (t:TypeId),C.cw f=some (j,sz)→C.Wr C.K f as' caps v→(∀ x∈as',∀ W',bc bs W W'→x.rd W')→(∀ s sz cells,C.K s sz cells→∀ W',bc bs W W'→Arg.rd W' ⟨s,sz,cells⟩)→bs.Nodup→bs.length=caps.length→ts.length=caps.length →
 (∀ (i b:Nat) (c:List Value) (t:TypeId),bs[i]?=some b→caps[i]?=some c→ts[i]?=some t→W.heap[b]?=some (.cells c.toArray t (0,0)))→bs[j]?=some b→ts[j]?=some t →
 Calls C.P f (as'.map Arg.v++bs.map fun b=>Value.pointer (some ⟨b,0,none⟩)).toArray W fun e W'=>∃ hdr,e=.returned hdr∧W'.os=W.os∧W'.tape=W.tape∧W'.output=W.output∧bc [b] W W'∧W'.heap[b]?=some (.cells #[comp v 1] t (0,0))∧LA C bs W W' hdr sz (aa (comp v 0))
def Cx.NG(C:Cx):Prop:=∀ K f as' v W,C.R K f as' v→(∀ x∈as',x.rd W)→(∀ s sz cells,K s sz cells→Arg.rd W ⟨s,sz,cells⟩)→Calls C.P f (as'.map Arg.v).toArray W fun e W'=>Below W.heap.size W W'∧∃ hdr,e=.returned ((C.sh f).fill hdr v)∧∀ p sz,(p,sz)∈(C.sh f).so []→mi C f as' W W' hdr sz (aa (p.foldl comp v))
def Cx.OV(C:Cx):Prop:=∀ f sh,C.nsh f=some sh→∀ K as' Q W,C.Rn K f as' Q→(∀ x∈as',x.rd W)→(∀ s sz cells,K s sz cells→Arg.rd W ⟨s,sz,cells⟩)→Calls C.P f (as'.map Arg.v).toArray W fun e W'=>Below W.heap.size W W'∧∃ v N,e=.returned v∧sh.fit v=true∧Q v N∧∀ y∈N,y.rd W'∧fR W.heap.size y.v
structure Cx.Ok(C:Cx):Prop where
 r:C.NG
 w:C.O4
 n:C.OV
theorem Cx.bP{C:Cx}(hw:∀ f,C.cw f=none)(h:C.NG)(hn:∀ f,C.nsh f=none:=by exact fun _=>rfl):C.Ok:=⟨h,fun f _ _ _ _ _ _ _ _ _ _ e=>(by rw [hw f]at e;cases e),fun f _ e=>(by rw [hn f]at e;cases e)⟩
theorem Cx.oB{C:Cx}(hw:∀ f,C.cw f=none)(h:C.NG)(hn:C.OV):C.Ok:=⟨h,fun f _ _ _ _ _ _ _ _ _ _ e=>(by rw [hw f]at e;cases e),hn⟩
theorem Cx.Ok.plus{C:Cx}(h:C.Ok)(hw:∀ f,C.cw f=none)(N:List Arg):(C.plus N).Ok:=⟨h.r,fun f _ _ _ _ _ _ _ _ _ _ e=>(by have e:C.cw f=some _:=e;rw [hw f]at e;cases e),h.n⟩
mutual
theorem uB:∀ (s:Sh)(h v:Value)(p:List Nat),s.so p=[]→s.fill h v=v
 | .one,h,v,p,_=>by simp [Sh.fill]
 | .any,h,v,p,_=>by simp [Sh.fill]
 | .ag n,h,v,p,_=>by simp [Sh.fill]
 | .sl n,h,v,p,e=>by simp [Sh.so]at e
 | .tp l,h,v,p,e=>by
  cases v<;>simp only [Sh.fill]
  rename_i vs
  rw [p7 l h vs.toList p 0 (by simpa [Sh.so]using e)]
 | .agl l,h,v,p,e=>by
  cases v<;>simp only [Sh.fill]
  rename_i vs
  rw [p7 l h vs.toList p 0 (by simpa [Sh.so]using e)]
theorem p7:∀ (l:List Sh)(h:Value)(vs:List Value)(p:List Nat)(k:Nat),Sh.AE l p k=[]→Sh.lE h l vs=vs
 | [],h,vs,p,k,_=>by simp [Sh.lE]
 | s::l,h,[],p,k,_=>by simp [Sh.lE]
 | s::l,h,v::vs,p,k,e=>by
  simp only [Sh.AE,List.append_eq_nil_iff]at e
  simp only [Sh.lE]
  rw [uB s h v _ e.1,p7 l h vs p (k+1) e.2]
end
theorem al{C:Cx}{f:FuncId}{as':List Arg}{W W':World}{e:Ending}{v:Value}(hs:(C.sh f).so []=[])(h:e=.returned v∧Below W.heap.size W W'):Below W.heap.size W W'∧∃ hdr,e=.returned ((C.sh f).fill hdr v)∧∀ p sz,(p,sz)∈(C.sh f).so []→mi C f as' W W' hdr sz (aa (p.foldl comp v)) :=
 ⟨h.2,undef,by rw [uB _ _ _ _ hs];exact h.1,fun p sz hp=>by rw [hs]at hp;cases hp⟩
theorem wN{cs:Array Value}{j:Nat}:comp (.agg cs) j=cs.toList.getD j undef:=rfl
theorem qG(l:List Value)(u:Value):(List.range l.length).map (fun j=>l.getD j u)=l:=by
 apply List.ext_getElem
 ·simp
 intro i h1 h2
 simp at h1
 simp [h1]
mutual
theorem iv(ρ:List Value)(α:Nat→AV)(i:Nat):∀ (s:Sh)(path:List Nat)(v:Value),path.foldl comp (ρ.getD i undef)=v→s.fit v=true→(s.exp i path).den ρ α=v
 | .one,path,v,h,_=>by simp only [Sh.exp,V.den];exact h
 | .any,path,v,h,_=>by simp only [Sh.exp,V.den];exact h
 | .ag n,path,v,h,hf=>by
  cases v<;>simp [Sh.fit]at hf
  rename_i cs
  obtain⟨rfl,_⟩:=hf
  simp only [Sh.exp,V.den,aw,List.map_map]
  have:(List.range cs.size).map (V.den ρ α∘fun j=>V.x i (path++[j]))=cs.toList:=by
   rw [← qG cs.toList undef,Array.length_toList]
   refine List.map_congr_left fun j _=>?_
   simp only [Function.comp,V.den,List.foldl_append,h,List.foldl_cons,List.foldl_nil,wN]
  rw [this]
 | .sl n,path,v,h,_=>by simp only [Sh.exp,V.den];exact h
 | .agl l,path,v,h,hf=>by
  cases v<;>simp [Sh.fit]at hf
  rename_i vs
  simp only [Sh.exp,V.den]
  rw [pY ρ α i l path 0 vs.toList (fun j=>by
   simp only [List.foldl_append,h,List.foldl_cons,List.foldl_nil,comp,Nat.zero_add]) hf]
 | .tp l,path,v,h,hf=>by
  cases v<;>simp [Sh.fit]at hf
  rename_i vs
  simp only [Sh.exp,V.den]
  rw [pY ρ α i l path 0 vs.toList (fun j=>by
   simp only [List.foldl_append,h,List.foldl_cons,List.foldl_nil,comp,Nat.zero_add]) hf]
theorem pY(ρ:List Value)(α:Nat→AV)(i:Nat):∀ (l:List Sh)(path:List Nat)(k:Nat)(vs:List Value),(∀ j,(path++[k+j]).foldl comp (ρ.getD i undef)=vs.getD j undef)→Sh.dC l vs=true→ab ρ α (Sh.CS i l path k)=vs
 | [],path,k,[],_,_=>by simp [Sh.CS,ab]
 | [],path,k,_::_,_,h=>by simp [Sh.dC]at h
 | _::_,path,k,[],_,h=>by simp [Sh.dC]at h
 | s::l,path,k,v::vs,h,hf=>by
  simp only [Sh.dC,Bool.and_eq_true]at hf
  simp only [Sh.CS,ab]
  rw [iv ρ α i s (path++[k]) v (by simpa using h 0) hf.1,pY ρ α i l path (k+1) vs (fun j=>by
   have:=h (j+1)
   rw [show k+(j+1)=k+1+j by omega]at this
   simpa using this) hf.2]
end
mutual
theorem wU(ρ:List Value)(α:Nat→AV)(nm i:Nat):∀ (s:Sh)(path:List Nat)(v:Value),path.foldl comp (ρ.getD i undef)=v→s.fit v=true→(s.pZ nm i path).den ρ α=s.fill ((α nm).h) v
 | .one,path,v,h,_=>by simp only [Sh.pZ,V.den,Sh.fill];exact h
 | .any,path,v,h,_=>by simp only [Sh.pZ,V.den,Sh.fill];exact h
 | .ag n,path,v,h,hf=>by
  have:=iv ρ α i (.ag n) path v h hf
  simp only [Sh.exp]at this
  simp only [Sh.pZ,Sh.fill]
  exact this
 | .sl n,path,v,h,_=>by simp only [Sh.pZ,V.den,Sh.fill]
 | .agl l,path,v,h,hf=>by
  cases v<;>simp [Sh.fit]at hf
  rename_i vs
  simp only [Sh.pZ,V.den,Sh.fill]
  rw [nM ρ α nm i l path 0 vs.toList (fun j=>by
   simp only [List.foldl_append,h,List.foldl_cons,List.foldl_nil,comp,Nat.zero_add]) hf]
 | .tp l,path,v,h,hf=>by
  cases v<;>simp [Sh.fit]at hf
  rename_i vs
  simp only [Sh.pZ,V.den,Sh.fill]
  rw [nM ρ α nm i l path 0 vs.toList (fun j=>by
   simp only [List.foldl_append,h,List.foldl_cons,List.foldl_nil,comp,Nat.zero_add]) hf]
theorem nM(ρ:List Value)(α:Nat→AV)(nm i:Nat):∀ (l:List Sh)(path:List Nat)(k:Nat)(vs:List Value),(∀ j,(path++[k+j]).foldl comp (ρ.getD i undef)=vs.getD j undef)→Sh.dC l vs=true→ab ρ α (Sh.sL nm i l path k)=Sh.lE ((α nm).h) l vs
 | [],path,k,[],_,_=>by simp [Sh.sL,ab,Sh.lE]
 | [],path,k,_::_,_,h=>by simp [Sh.dC]at h
 | _::_,path,k,[],_,h=>by simp [Sh.dC]at h
 | s::l,path,k,v::vs,h,hf=>by
  simp only [Sh.dC,Bool.and_eq_true]at hf
  simp only [Sh.sL,ab,Sh.lE]
  rw [wU ρ α nm i s (path++[k]) v (by simpa using h 0) hf.1,nM ρ α nm i l path (k+1) vs (fun j=>by
   have:=h (j+1)
   rw [show k+(j+1)=k+1+j by omega]at this
   simpa using this) hf.2]
end
def bh(m:Nat)(sh:Sh)(mk:Option V):V:=mk.getD (sh.exp m [])
theorem cR{P:Program}{f:FuncId}(h:enters P f=true)(args:Array Value)(W:World):(callFunc f args).run P W=.ok (.enter f args) W:=by
 unfold enters at h
 split at h
 ·rename_i fn hf
  simp only [Bool.and_eq_true,Bool.not_eq_true']at h
  have h1:¬ fn.name = "runtime.NumGoroutine" := by simpa using h.1
  obtain⟨c,hc⟩:=Option.isSome_iff_exists.1 h.2
  simp [callFunc,hf,h1,hc]
 cases h
section
variable {C:Cx}{w0:eT}{ps:List (World→Prop)}{T:List TF}{ρ:List Value}{s:S}{a:Act}{W:World}{α:Nat→AV}{K:Act→World→Prop}{Q:Exit→Act→World→Prop}{o:Oper}{nm:Nat}
theorem qQ{q q':cO}{f:Value→Option Value}{x:V}{args:List V}{sh:Sh}{mk:Option V}(h:Hl q f x=.df q' args sh mk none none):q'=q∧args=[x]∧sh=.one∧mk=none:=by
 unfold Hl at h
 split at h
 ·split at h
  ·split at h<;>cases h
  cases h
 injection h with h1 h2 h3 h4
 exact⟨h1.symm,h2.symm,h3.symm,h4.symm⟩
theorem vl{q q':cO}{f:Value→Value→Option Value}{x y:V}{args:List V}{sh:Sh}{mk:Option V}(h:H9 q f x y=.df q' args sh mk none none):q'=q∧args=[x,y]∧sh=.one∧mk=none:=by
 unfold H9 at h
 split at h
 ·split at h
  ·split at h<;>cases h
  cases h
 injection h with h1 h2 h3 h4
 exact⟨h1.symm,h2.symm,h3.symm,h4.symm⟩
theorem ay.N9(hI:ay w0 ps T ρ s a W α){n:Nat}{b:ae}(hn:s.hp[n]?=some (some b))(hk:b.k=.froz):∀ W2,bc (aX (aN ρ α 0 s.hp) (dp a s T)) W W2→W2.heap[(α n).b]?=some (.cells (ab ρ α b.c).toArray b.t (0,0))∧w0.w.heap.size≤(α n).b:=fun W2 h =>
 hI.st.pers (fun W=>W.heap[(α n).b]?=some (.cells (ab ρ α b.c).toArray b.t (0,0))∧w0.w.heap.size≤(α n).b) (List.mem_append.2 (.inl (cB.2 ⟨n,b,hn,by rw [Nat.zero_add];simp only [ae.ex,hk]⟩))) W2 h
theorem ay.OQ(hI:ay w0 ps T ρ s a W α){n:Nat}{b:ae}(hn:s.hp[n]?=some (some b))(hk:b.k=.cells∨b.k=.froz):W.heap[(α n).b]?=some (.cells (ab ρ α b.c).toArray b.t (0,0)):=by
 rcases hk with hk|hk
 ·exact hI.st.at_ (hI.dt hn hk)
 exact(hI.N9 hn hk W (.refl _ _)).1
theorem ft(hI:ay w0 ps T ρ s a W α)(hKf:Kf C W){vv:List V}:∀ {ts:List TypeId}{vs:List V}{rw:List Rw}{as':List Arg},dK C.P (cA s.hp vv) ts vs=some rw→bK C ρ α rw vs as'→as'.map Arg.v=ab ρ α vs∧∀ x∈as',x.rd W
 | [],[],rw,as',h,ha=>by
  obtain rfl:[]=rw:=by simpa [dK]using h
  cases as' with
  | nil=>exact⟨rfl,fun _ h=>nomatch h⟩
  | cons _ _=>exact ha.elim
 | [],_::_,rw,as',h,ha=>by simp [dK]at h
 | _::_,[],rw,as',h,ha=>by simp [dK]at h
 | t::ts,v::vs,rw,as',h,ha=>by
  unfold dK at h
  simp only [Option.bind_eq_some_iff,Option.map_eq_some_iff]at h
  obtain⟨r,hr,rw',hrw,rfl⟩:=h
  have key:∀ x xs,as'=x::xs→x.v=v.den ρ α→x.rd W→bK C ρ α rw' vs xs→as'.map Arg.v=ab ρ α (v::vs)∧∀ x∈as',x.rd W:=fun x xs h1 h2 h3 h4=>by
   obtain⟨h5,h6⟩:=ft hI hKf hrw h4
   subst h1
   refine⟨by simp [ab,h2,h5],fun y hy=>?_⟩
   rcases List.mem_cons.1 hy with rfl|hy
   ·exact h3
   exact h6 y hy
  split at hr
  ·rename_i n oo l cc e he
   split at hr
   ·rename_i sz b hsz hb
    split at hr
    ·rename_i hlt
     obtain rfl:Rw.own sz ((b.c.drop oo).take (l*sz))=r:=by simpa using hr
     cases as' with
     | nil=>exact ha.elim
     | cons x xs =>
      obtain⟨rfl,h4⟩:=ha
      refine key _ _ rfl rfl ?_ h4
      have hblk:=hI.OQ (fY hb).1 (fY hb).2
      refine⟨?_,hlt.2⟩
      show Rd W sz (some ⟨(α n).b,oo,none⟩) l (ab ρ α ((b.c.drop oo).take (l*sz)))
      exact Rd.jD hblk (by rw [cm]) (by rw [cm];simp [aj];omega)
    cases hr
   cases hr
  ·rename_i cc e he
   split at hr
   ·rename_i sz hsz
    obtain rfl:Rw.own sz []=r:=by simpa using hr
    cases as' with
    | nil=>exact ha.elim
    | cons x xs =>
     obtain⟨rfl,h4⟩:=ha
     refine key _ _ rfl rfl ?_ h4
     exact⟨Rd.none_,Nat.zero_le _⟩
   cases hr
  ·rename_i i p e he
   split at hr
   ·rename_i sz hsz
    obtain rfl:Rw.ext sz=r:=by simpa using hr
    cases as' with
    | nil=>exact ha.elim
    | cons x xs =>
     obtain⟨h1,h2,h3,h4⟩:=ha
     refine key _ _ rfl h1 ?_ h4
     have:=hKf _ _ _ h3
     rw [← h1]at this
     cases x
     subst h2
     exact this
   cases hr
  ·rename_i n e he
   simp only [Option.map_eq_some_iff]at hr
   obtain⟨⟨c,e',sz⟩,hrow,rfl⟩:=hr
   cases as' with
   | nil=>exact ha.elim
   | cons x xs =>
    obtain⟨rfl,h4⟩:=ha
    refine key _ _ rfl rfl ?_ h4
    obtain⟨k,hrn,hk⟩:=dF hrow
    show Arg.rd W ⟨(α n).h,sz,(ab ρ α c).flatMap aa⟩
    exact nV hI hrn hk
  ·cases hr
  ·cases hr
  ·cases hr
  obtain rfl:Rw.no=r:=by simpa using hr
  cases as' with
  | nil=>exact ha.elim
  | cons x xs =>
   obtain⟨rfl,h1,h4⟩:=ha
   refine key _ _ rfl rfl ?_ h4
   unfold Arg.rd
   split
   ·rename_i hq
    dsimp only at hq
    rw [hq]at h1
    cases h1
   trivial
theorem m8{P:Program}{bs:List (Nat×Option ae)}:∀ {ts:List TypeId}{vs:List V}{rw:List Rw},dK P bs ts vs=some rw→rw.length=vs.length
 | [],[],rw,h=>by
  obtain rfl:[]=rw:=by simpa [dK]using h
  rfl
 | [],_::_,rw,h=>by simp [dK]at h
 | _::_,[],rw,h=>by simp [dK]at h
 | t::ts,v::vs,rw,h=>by
  unfold dK at h
  simp only [Option.bind_eq_some_iff,Option.map_eq_some_iff]at h
  obtain⟨r,hr,rw',hrw,rfl⟩:=h
  simp [m8 hrw]
theorem Bn(hI:ay w0 ps T ρ s a W α){vv:List V}:∀ {vs:List V}{rw:List Rw}{gs:List Arg},FA C.P (cA s.hp vv) vs=some rw→bK C ρ α rw vs gs→∀ x∈gs,x.rd W
 | [],rw,gs,h,ha=>by
  obtain rfl:[]=rw:=by simpa [FA]using h
  cases gs with
  | nil=>exact fun _ h=>nomatch h
  | cons _ _=>exact ha.elim
 | v::vs,rw,gs,h,ha=>by
  unfold FA at h
  simp only [Option.bind_eq_some_iff,Option.map_eq_some_iff]at h
  obtain⟨r,hr,rw',hrw,rfl⟩:=h
  have key:∀ x xs,gs=x::xs→x.rd W→bK C ρ α rw' vs xs→∀ x∈gs,x.rd W:=fun x xs h1 h3 h4=>by
   have h6:=Bn hI hrw h4
   subst h1
   intro y hy
   rcases List.mem_cons.1 hy with rfl|hy
   ·exact h3
   exact h6 y hy
  split at hr
  ·rename_i n oo l cc
   split at hr
   ·rename_i b hb
    split at hr
    ·rename_i sz hsz
     split at hr
     ·rename_i hlt
      obtain rfl:Rw.own sz ((b.c.drop oo).take (l*sz))=r:=by simpa using hr
      cases gs with
      | nil=>exact ha.elim
      | cons x xs =>
       obtain⟨rfl,h4⟩:=ha
       refine key _ _ rfl ?_ h4
       have hblk:=hI.OQ (fY hb).1 (fY hb).2
       refine⟨?_,hlt.2⟩
       show Rd W sz (some ⟨(α n).b,oo,none⟩) l (ab ρ α ((b.c.drop oo).take (l*sz)))
       exact Rd.jD hblk (by rw [cm]) (by rw [cm];simp [aj];omega)
     cases hr
    cases hr
   cases hr
  ·rename_i n
   simp only [Option.map_eq_some_iff]at hr
   obtain⟨⟨c,e',sz⟩,hrow,rfl⟩:=hr
   cases gs with
   | nil=>exact ha.elim
   | cons x xs =>
    obtain⟨rfl,h4⟩:=ha
    refine key _ _ rfl ?_ h4
    obtain⟨k,hrn,hk⟩:=dF hrow
    show Arg.rd W ⟨(α n).h,sz,(ab ρ α c).flatMap aa⟩
    exact nV hI hrn hk
  cases hr
theorem JJ(hI:ay w0 ps T ρ s a W α)(hKf:Kf C W){vv:List V}{ts:List TypeId}{g:FuncId}{rw:List Rw}{args':List V}{v:Value}(hrw:dK C.P (cA s.hp vv) ts args'=some rw)(hrel:(Kb C (cA s.hp vv) g rw args').1.rel C ρ α (Kb C (cA s.hp vv) g rw args').2 v) :
 ∃ K' as',bK C ρ α rw args' as'∧C.R K' g as' v∧(∀ s sz cells,K' s sz cells→Arg.rd W ⟨s,sz,cells⟩)∧ub C g rw as':=by
 unfold Kb at hrel
 split at hrel
 ·rename_i r grw hg
  obtain⟨as',gs,h1,h2,h3,h4⟩:=hrel
  have hl:=m8 hrw
  rw [List.take_left' hl.symm]at h1
  rw [List.drop_left' hl.symm]at h2
  refine⟨_,as',h1,h3,fun u sz cells hk=>?_,h4⟩
  rcases hk with hk|hk
  ·exact hKf _ _ _ hk
  exact Bn hI hg h2 _ hk
 obtain⟨as',h1,h3,h4⟩:=hrel
 exact⟨C.K,as',h1,h3,hKf,h4⟩
theorem qN{P:Program}{neq:Bool}{t t':TypeId}{x y:Operand}{l:List CK}{xs ys:List Value}{b:Bool}(hop:o.op=.binOp (if neq then .neq else .eql) t x y t')(hx:a.eval x=.agg xs.toArray)(hy:a.eval y=.agg ys.toArray)(hk:fi P 20 t=some l)(hr:rowOf P t=some true)(hg:P.eqGuardType P.depth t=false)
 (fx:fits l xs=true) (fy:fits l ys=true) (hB:b=true↔xs=ys) (h:K (a.put o.dst (.bool (neq ^^ b))) W):o.wp P a W K Q:=by
 have hB':b=true↔xs.toArray=ys.toArray:=by rw [hB];exact⟨fun h=>by rw [h],fun h=>by simpa using h⟩
 cases neq
 ·exact Lt hop hx hy hk hr hg (by simpa using fx) (by simpa using fy) hB' (by simpa using h)
 exact Lu hop hx hy hk hr hg (by simpa using fx) (by simpa using fy) hB' (by simpa using h)
theorem y7{s i:Value}(h:Lz s i):∃ ad n c k j,s=.slice (some ad) n c∧i=.int k j∧0≤j∧j<n:=by
 unfold Lz at h
 split at h
 ·exact⟨_,_,_,_,_,rfl,rfl,h.1,h.2⟩
 exact h.elim
def Hu(str:Bool)(sz:Nat)(x:Value)(r:Option Value×Option Value×Option Value):Option Value:=match str,x with
 | false,.slice a len cap=>(bU len cap r.1 r.2.1 r.2.2).map fun(l,h,m)=>.slice (if m=l then a else a.map (·.add (l*sz))) (h-l) (m-l)
 | true,.string s=>if r.2.2.isSome then none else(bU s.size s.size r.1 r.2.1 none).map fun(l,h,_)=>.string (s.extract l h)
 | _,_=>none
theorem vo{t:TypeId}{xo:Operand}{lo hi mx:Option Operand}{str:Bool}{sz:Nat}{xs:List Value}{v:Value}(he:(Op.slice t xo lo hi mx).operands.toList.map a.eval=xs)(h:nY str sz lo.isSome hi.isSome mx.isSome xs=some v):∃ x r,a.eval xo=x∧iz a lo hi mx=r∧Hu str sz x r=some v:=by
 cases xs with
 | nil=>simp [nY]at h
 | cons x bs =>
  have he':a.eval xo::(lo.toArray++hi.toArray++mx.toArray).toList.map a.eval=x::bs:=by
   rw [← he];simp [Op.operands]
  injection he' with h3 h4
  simp only [nY,Option.bind_eq_some_iff]at h
  obtain⟨r,hr,h⟩:=h
  exact⟨x,r,h3,s6 h4 hr,h⟩
theorem Jv{sz:Nat}{x v:Value}{r:Option Value×Option Value×Option Value}(h:Hu true sz x r=some v):∃ s l h m,x=.string s∧r.2.2.isSome=false∧bU s.size s.size r.1 r.2.1 none=some (l,h,m)∧v=.string (s.extract l h):=by
 cases x<;>simp only [Hu,reduceCtorEq]at h
 rename_i s
 split at h
 ·cases h
 rename_i hm
 simp only [Option.map_eq_some_iff,Option.some.injEq]at h
 obtain⟨⟨l,h1,m⟩,hb,rfl⟩:=h
 exact⟨_,l,h1,m,rfl,by simpa using hm,hb,rfl⟩
theorem Hv{sz:Nat}{x v:Value}{r:Option Value×Option Value×Option Value}(h:Hu false sz x r=some v):∃ A len cap l h m,x=.slice A len cap∧bU len cap r.1 r.2.1 r.2.2=some (l,h,m)∧v=.slice (if m=l then A else A.map (·.add (l*sz))) (h-l) (m-l):=by
 cases x<;>simp only [Hu,reduceCtorEq]at h
 simp only [Option.map_eq_some_iff]at h
 obtain⟨⟨l,h1,m⟩,hb,rfl⟩:=h
 exact⟨_,_,_,l,h1,m,rfl,hb,rfl⟩
theorem FV{P:Program}{t:TypeId}(h:se P t=some true):P.underlying t=some .string:=by
 unfold se at h
 split at h
 ·assumption
 ·cases h
 cases h
theorem xI{bs:List (Nat×Option ae)}{nm m:Nat}{t:TypeId}{x y:V}{q:cO}{args:List V}{sh:Sh}{mk:Option V}{wr:Option (Nat×ae)}(h:ko C bs nm m t x y=.df q args sh mk none wr):False:=by
 unfold ko at h
 split at h
 ·split at h
  ·split at h
   ·split at h<;>cases h
   cases h
  cases h
 cases h
def NE(ρ:List Value)(α:Nat→AV)(n sz:Nat)(c:List V):Prop:=0<sz∧∃ A len cap,(α n).h=.slice A len cap∧((ab ρ α c).flatMap aa).length=len*sz∧(0<len→A.isSome=true)
def ER(ρ:List Value)(α:Nat→AV)(bs:List (Nat×Option ae)):Prop:=∀ (n sz:Nat) (c:List V) (e:TypeId),ku bs n=some (c,e,sz)→NE ρ α n sz c
theorem xj(hI:ay w0 ps T ρ s a W α)(op:Op)(vs:List V):ER ρ α (s.iA op vs):=by
 intro n sz c e h
 unfold S.iA at h
 split at h
 ·obtain⟨k,hn,hk⟩:=dF h
  have:=hI.lens n _ hn
  rcases hk with rfl|rfl<;>exact this
 obtain⟨k,hn,hk⟩:=dF h
 have:=(hI.rows n _ hn).2.len
 rcases hk with rfl|rfl<;>exact this
theorem kS{bs:List (Nat×Option ae)}{s' i':V}{sz o':Nat}{q:cO}{args:List V}{sh:Sh}{mk:Option V}{new:Option ae}{wr:Option (Nat×ae)}{v:Value}(hL:ER ρ α bs)(h:eM bs s' i' sz o'=.df q args sh mk new wr)(hrel:q.rel C ρ α args v) :
 mk=some (.ep s' i' sz o')∧∃ ad n c k j,s'.den ρ α=.slice (some ad) n c∧i'.den ρ α=.int k j∧0≤j∧j<n:=by
 unfold eM at h
 split at h
 ·split at h
  ·rename_i c e sz' hrow
   split at h
   ·rename_i hs
    subst hs
    injection h with h1 h2 h3 h4
    subst h1;subst h2;subst h4
    have hb:iI (aa ((V.cat c).den ρ α)).length sz' (i'.den ρ α)∧_:=hrel
    obtain⟨hb,_⟩:=hb
    unfold iI at hb
    split at hb
    ·rename_i k j hi
     simp only [V.den,aa]at hb
     obtain⟨h0,A,len,cap,h5,h6,h7⟩:=hL _ _ _ _ hrow
     rw [h6,Nat.mul_div_cancel _ h0]at hb
     obtain⟨ad,rfl⟩:=Option.isSome_iff_exists.1 (h7 (by omega))
     exact⟨rfl,ad,len,cap,k,j,by simp only [V.den];exact h5,by assumption,hb.1,hb.2⟩
    exact hb.elim
   cases h
  cases h
 injection h with h1 h2 h3 h4
 subst h1;subst h2;subst h4
 obtain⟨hbnd,_⟩:=hrel
 obtain⟨ad,n',c',k',j,hs',hi',h0,h1⟩:=y7 hbnd
 exact⟨rfl,ad,n',c',k',j,hs',hi',h0,h1⟩
theorem xD{b:Bool}{n:Nat}{ds:List V}{p:Nat}{q:cO}{args:List V}{sh:Sh}{mk:Option V}{new:Option ae}{wr:Option (Nat×ae)}(h:BC b n ds p=.df q args sh mk new wr):False:=by
 unfold BC at h
 split at h
 ·cases h
 split at h<;>cases h
theorem Bt{vs:List V}{s' i':V}{sz o' n:Nat}{b:Bool}{q:cO}{args:List V}{sh:Sh}{mk:Option V}{new:Option ae}{wr:Option (Nat×ae)}{v:Value}(hI:ay w0 ps T ρ s a W α)(hKf:Kf C W)(h:jE (cA s.hp vs) b n s' i' sz o'=.df q args sh mk new wr)(hrel:q.rel C ρ α args v) :
 mk=none∧∃ ad len c k j,s'.den ρ α=.slice (some ad) len c∧i'.den ρ α=.int k j∧((b=false∧W.cell? (ad.add (j.toNat*sz+o'))=some v)∨(b=true∧∃ cs:Array Value,v=.agg cs∧cs.size=n∧Cells W (ad.add (j.toNat*sz+o')) cs)):=by
 unfold jE at h
 split at h
 ·split at h
  ·rename_i c e sz' hrow
   split at h
   ·rename_i hs
    subst hs
    split at h
    ·exact(xD h).elim
    split at h
    ·rename_i hb
     injection h with h1 h2 h3 h4
     subst h1;subst h2;subst h4
     have hr:iI (aa ((V.cat c).den ρ α)).length sz' (i'.den ρ α)∧idxOf (i'.den ρ α)*sz'+o'+n≤(aa ((V.cat c).den ρ α)).length∧v=.agg ((aa ((V.cat c).den ρ α)).drop (idxOf (i'.den ρ α)*sz'+o') |>.take n).toArray:=hrel
     obtain⟨hbd,hlt,rfl⟩:=hr
     obtain⟨kk,hn,hk⟩:=dF hrow
     obtain⟨ad,len,cap,k,j,g1,g2,g3,g4,g5,g6⟩:=u6 hI hn hk hbd
     rw [g2]at hlt ⊢
     simp only [V.den,aa,idxOf]at hlt
     exact⟨rfl,ad,len,cap,k,j,g1,rfl,.inr ⟨hb,(((ab ρ α c).flatMap aa).drop (j.toNat*sz'+o') |>.take n).toArray,rfl,by simp only [List.size_toArray,List.length_take,List.length_drop];omega,Rd.mo g6 hlt⟩⟩
    rename_i hb
    injection h with h1 h2 h3 h4
    subst h1;subst h2;subst h4
    have hr:iI (aa ((V.cat c).den ρ α)).length sz' (i'.den ρ α)∧(aa ((V.cat c).den ρ α))[idxOf (i'.den ρ α)*sz'+o']?=some v:=hrel
    obtain⟨hbd,hcell⟩:=hr
    obtain⟨kk,hn,hk⟩:=dF hrow
    obtain⟨ad,len,cap,k,j,g1,g2,g3,g4,g5,g6⟩:=u6 hI hn hk hbd
    rw [g2]at hcell ⊢
    simp only [V.den,aa,idxOf]at hcell
    refine⟨rfl,ad,len,cap,k,j,g1,rfl,.inl ⟨by simpa using hb,?_⟩⟩
    obtain⟨ad',e',hcl⟩:=Rd.in g6 (List.getElem?_eq_some_iff.1 hcell).1
    cases e'
    exact hcl _ _ hcell
   cases h
  cases h
 split at h
 ·rename_i hb
  injection h with h1 h2 h3 h4
  subst h1;subst h2;subst h4
  obtain⟨hbnd,cells,hc,hlt,rfl⟩:=hrel
  have hR:=hKf _ _ _ hc
  obtain⟨ad,n',c',k',j,hs',hi',h0,h1⟩:=y7 hbnd
  rw [hs']at hR
  replace hR:=hR.1
  have hcell:=Rd.mo hR (i:=idxOf (i'.den ρ α)*sz+o') (n:=n) hlt
  rw [hi']at hcell hlt ⊢
  exact⟨rfl,ad,n',c',k',j,hs',rfl,.inr ⟨hb,_,rfl,by simp [idxOf]at hlt ⊢;omega,hcell⟩⟩
 rename_i hb
 injection h with h1 h2 h3 h4
 subst h1;subst h2;subst h4
 obtain⟨hbnd,cells,hc,hcell⟩:=hrel
 have hR:=hKf _ _ _ hc
 obtain⟨ad,n',c',k',j,hs',hi',h0,h1⟩:=y7 hbnd
 rw [hs']at hR
 replace hR:=hR.1
 obtain⟨ad',e,hcl⟩:=Rd.in hR (List.getElem?_eq_some_iff.1 hcell).1
 cases e
 rw [hi']at hcell ⊢
 exact⟨rfl,ad,n',c',k',j,hs',rfl,.inl ⟨by simpa using hb,hcl _ _ hcell⟩⟩
def sX(ρ:List Value)(α:Nat→AV)(v:Value):Option V→Value
 | none=>v
 | some e=>e.den ρ α
theorem qy{bs:List (Nat×Option ae)}{nm m:Nat}{fr:Bool}{t:TypeId}{x y:V}{q:cO}{args:List V}{sh:Sh}{mk:Option V}{new:Option ae}{wr:Option (Nat×ae)}(h:kp C bs nm m fr t x y=.df q args sh mk new wr):∃ e sz by' z src,dG C.P t=some e∧aM C.P e=some sz∧bytesOf C.P e=some by'∧zeroOf C.P e=some z∧dK C.P bs [t] [y]=some [src]∧0<sz∧z.cells.size=sz∧by'≤1000000∧q=.appx sz by' fr src∧args=[x,y]∧sh=.any∧mk=some (.row nm)∧new=some ⟨[.x m []],e,if fr then .row sz else .ext sz⟩∧wr=none:=by
 unfold kp at h
 split at h
 ·rename_i e he
  split at h
  ·rename_i sz by' z h1 h2 h3
   split at h
   ·rename_i src hsrc
    split at h
    ·rename_i hc
     cases h
     exact⟨e,sz,by',z,src,he,h1,h2,h3,hsrc,hc.1,hc.2.1,hc.2.2,rfl,rfl,rfl,rfl,rfl,rfl⟩
    cases h
   cases h
  cases h
 cases h
theorem xJ{bs:List (Nat×Option ae)}{nm m:Nat}{fr:Bool}{t:TypeId}{x y:V}{q:cO}{args:List V}{sh:Sh}{mk:Option V}{wr:Option (Nat×ae)}(h:kp C bs nm m fr t x y=.df q args sh mk none wr):False:=by
 obtain⟨_,_,_,_,_,_,_,_,_,_,_,_,_,_,_,_,_,h,_⟩:=qy h
 cases h
theorem Dq{bs:List (Nat×Option ae)}{m:Nat}{g:FuncId}{ts:List TypeId}{args' cap:List V}{q:cO}{args:List V}{sh:Sh}{mk:Option V}(h:kq C bs nm m g ts args' cap=.df q args sh mk none none):False:=by
 unfold kq at h
 split at h
 ·split at h
  ·split at h<;>cases h
  cases h
 cases h
theorem IB{sh0:List Sh}{q:cO}{args:List V}{sh:Sh}{mk:Option V}{vs:List V}(hC:C.Ok)(hps:ll C w0 ps)(hvs:o.op.operands.toList.mapM s.ev=some vs){bs:List (Nat×Option ae)}(hbs:bM o.op=false→∃ vv,bs=cA s.hp vv)(hL:ER ρ α bs)(h:fI C sh0 nm o.op vs bs=.df q args sh mk none none)(hI:ay w0 ps T ρ s a W α){v:Value}(hrel:q.rel C ρ α args v)
 (hK:∀ W',Below W.heap.size W W'→K (a.put o.dst (sX ρ α v mk)) W'):o.wp C.P a W K Q:=by
 have he:=cD hI.good hI.fm hvs
 have hKf:Kf C W:=hI.fact hps.1
 have hrefl:=Below.refl W.heap.size W
 generalize hop:o.op=op at *
 unfold fI at h
 split at h
 ·cases h
 ·cases h
 ·split at h<;>cases h
 ·split at h
  ·cases h
  split at h<;>cases h
 ·split at h
  ·cases h
  ·split at h<;>cases h
  cases h
 ·split at h
  ·split at h<;>cases h
  ·split at h<;>cases h
  cases h
 ·-- load of an element
  rename_i s' i' sz o'
  simp [Op.operands,ab,V.den]at he
  split at h
  ·rename_i b n hr hs
   obtain⟨vv,hbv⟩:=hbs rfl
   rw [hbv]at h
   obtain⟨rfl,ad,len,cap,kk,j,hs',hi',hb⟩:=Bt hI hKf h hrel
   rw [hs',hi']at he
   rcases hb with ⟨rfl,hcell⟩|⟨rfl,cs,rfl,hsz,hcells⟩
   ·exact ck hop he hr hcell (hK W hrefl)
   exact dX hop he hr hcells (by rw [hs,hsz]) (hK W hrefl)
  cases h
 ·split at h
  ·split at h<;>cases h
  cases h
 ·cases h
 ·split at h<;>cases h
 ·-- fieldAddr of an element
  rename_i s' i' sz o'
  simp [Op.operands,ab,V.den]at he
  split at h
  ·rename_i d hd
   obtain⟨rfl,ad,len,cap,kk,j,hs',hi',h0,h1⟩:=kS hL h hrel
   rw [hs',hi']at he
   have hk:=hK W hrefl
   simp only [sX,V.den,hs',hi',yz]at hk
   refine sq hop he hd ?_
   simp only [jm,Nat.add_assoc]
   exact hk
  cases h
 ·split at h
  ·split at h
   ·split at h<;>cases h
   ·split at h<;>cases h
   cases h
  cases h
 ·split at h
  ·split at h
   ·split at h<;>cases h
   cases h
  cases h
 ·split at h<;>cases h
 ·split at h
  ·split at h
   ·split at h<;>cases h
   cases h
  cases h
 ·cases h
 ·-- indexAddr of a slice
  simp [Op.operands,ab]at he
  split at h
  ·rename_i e hsl
   split at h
   ·rename_i sz hsz
    obtain⟨rfl,ad,len,cap,kk,j,hs',hi',h0,h1⟩:=kS hL h hrel
    have hk:=hK W hrefl
    simp only [V.den]at hs'
    simp only [sX,V.den,hs',hi',yz]at hk
    refine eI hop (he.1.trans hs') (he.2.trans hi') (aO hsl) h0 h1 hsz rfl ?_
    exact hk
   cases h
  cases h
 ·-- indexAddr of a row
  simp [Op.operands,ab]at he
  split at h
  ·rename_i e hsl
   split at h
   ·rename_i sz hsz
    obtain⟨rfl,ad,len,cap,kk,j,hs',hi',h0,h1⟩:=kS hL h hrel
    have hk:=hK W hrefl
    simp only [V.den]at hs'
    simp only [sX,V.den,hs',hi',yz]at hk
    refine eI hop (he.1.trans hs') (he.2.trans hi') (aO hsl) h0 h1 hsz rfl ?_
    exact hk
   cases h
  cases h
 ·-- store into a row
  split at h
  ·split at h
   ·split at h<;>cases h
   split at h<;>cases h
  cases h
 ·split at h
  ·split at h
   ·split at h<;>cases h
   ·split at h
    ·split at h<;>cases h
    cases h
   cases h
  cases h
 ·split at h<;>cases h
 ·split at h<;>cases h
 ·-- binOp
  simp [Op.operands,ab]at he
  split at h
  ·split at h
   ·split at h
    ·rename_i hc
     injection h with h1 h2 h3 h4
     subst h1;subst h2;subst h3;subst h4
     obtain⟨b,hb,fx,fy,rfl⟩:=hrel
     rw [List.take_left' hc.2.1]at hb fx
     rw [List.drop_left' hc.2.1]at hb fy
     exact qN (neq:=false) hop he.1 he.2 (by assumption) (by assumption) hc.1 fx fy hb (hK W hrefl)
    cases h
   ·split at h
    ·rename_i hc
     injection h with h1 h2 h3 h4
     subst h1;subst h2;subst h3;subst h4
     obtain⟨b,hb,fx,fy,rfl⟩:=hrel
     rw [List.take_left' hc.2.1]at hb fx
     rw [List.drop_left' hc.2.1]at hb fy
     exact qN (neq:=true) hop he.1 he.2 (by assumption) (by assumption) hc.1 fx fy hb (hK W hrefl)
    cases h
   cases h
  ·split at h
   ·rename_i hsl
    cases h
    obtain⟨A,n,c,hx,rfl⟩:=hrel
    exact aZ (yd (neq:=false) hop (he.1.trans hx) (by simpa [V.den]using he.2) (aO hsl)) (hK W hrefl)
   ·rename_i hsl
    cases h
    obtain⟨A,n,c,hx,rfl⟩:=hrel
    exact aZ (yd (neq:=true) hop (he.1.trans hx) (by simpa [V.den]using he.2) (aO hsl)) (hK W hrefl)
   cases h
  split at h
  ·rename_i hbt
   obtain⟨rfl,rfl,rfl,rfl⟩:=vl h
   exact aZ (xX hop he.1 he.2 hbt hrel) (hK W hrefl)
  obtain⟨rfl,rfl,rfl,rfl⟩:=vl h
  exact aZ (BI hop he.1 he.2 hrel) (hK W hrefl)
 ·simp [Op.operands,ab]at he
  obtain⟨rfl,rfl,rfl,rfl⟩:=qQ h
  exact aZ (BN hop he hrel) (hK W hrefl)
 ·simp [Op.operands,ab]at he
  obtain⟨rfl,rfl,rfl,rfl⟩:=qQ h
  exact aZ (BM hop he hrel) (hK W hrefl)
 ·simp [Op.operands,ab]at he
  split at h
  ·rename_i hs hd
   obtain⟨rfl,rfl,rfl,rfl⟩:=qQ h
   exact aZ (xY hop he hs hd hrel) (hK W hrefl)
  cases h
 ·-- a slice of a row
  unfold nR at h
  split at h
  ·split at h<;>cases h
  cases h
 ·-- slice
  rename_i bs _
  unfold qC at h
  split at h
  ·split at h
   ·split at h
    ·split at h<;>cases h
    cases h
   cases h
  ·split at h
   ·split at h
    ·split at h<;>cases h
    cases h
   cases h
  split at h
  ·rename_i hlt
   injection h with h1 h2 h3 h4
   subst h1;subst h2;subst h3;subst h4
   obtain⟨x,r,hx,ho,hr⟩:=vo he hrel
   obtain⟨s',l1,h1,m1,rfl,hm,hb,rfl⟩:=Jv hr
   exact aZ (En hop hx (FV hlt) ho hm hb) (hK W hrefl)
  ·rename_i hlt
   split at h
   ·rename_i sz hsz
    injection h with h1 h2 h3 h4
    subst h1;subst h2;subst h3;subst h4
    obtain⟨x,r,hx,ho,hr⟩:=vo he hrel
    obtain⟨A,len,cap,l1,h1,m1,rfl,hb,rfl⟩:=Hv hr
    obtain⟨e,he1,he2⟩:=Option.bind_eq_some_iff.1 hsz
    exact aZ (gX hop hx (aO he1) he2 ho hb) (hK W hrefl)
   cases h
  cases h
 ·cases h
 ·split at h
  ·split at h
   ·split at h<;>cases h
   cases h
  cases h
 ·split at h
  ·split at h
   ·split at h
    ·cases h
    split at h
    ·cases h
    split at h<;>cases h
   cases h
  cases h
 ·-- call
  rename_i c
  have hargs:∀ b,c.callee=.builtin b→c.args.map a.eval=(ab ρ α vs).toArray:=fun b hb=>by
   rw [← he]
   exact Array.ext' (by simp [Op.operands,Call.operands,hb])
  split at h
  ·split at h
   ·split at h
    ·split at h
     ·exact(xJ h).elim
     exact(xI h).elim
    cases h
   cases h
  ·rename_i n hcal
   have ha:=hargs _ hcal
   split at h
   ·rename_i c' e sz hlt hrow
    injection h with h1 h2 h3 h4
    subst h1;subst h2;subst h3;subst h4
    have hv:v=.int .i64 ((aa ((V.cat c').den ρ α)).length / sz:Nat):=hrel
    obtain⟨h0,hh⟩:=hL _ _ _ _ hrow
    have hlen:C4 false ((α n).h)=some v:=by
     rw [hv]
     simp only [V.den,aa]
     obtain⟨A,len,cap,h5,h6,_⟩:=hh
     rw [h5,h6,Nat.mul_div_cancel _ h0];rfl
    exact aZ (pC hop hcal hlt (by rw [ha];simp [ab,V.den]) hlen) (hK W hrefl)
   cases h
  ·rename_i x hcal
   have ha:=hargs _ hcal
   split at h
   ·rename_i str hstr
    split at h
    ·cases h
    obtain⟨rfl,rfl,rfl,rfl⟩:=qQ h
    exact aZ (pC hop hcal hstr (by rw [ha];simp [ab,V.den]) hrel) (hK W hrefl)
   cases h
  ·rename_i x hcal
   have ha:=hargs _ hcal
   split at h
   ·rename_i hstr
    split at h
    ·cases h
    obtain⟨rfl,rfl,rfl,rfl⟩:=qQ h
    exact aZ (vi hop hcal hstr (by rw [ha];simp [ab,V.den]) hrel) (hK W hrefl)
   cases h
  ·rename_i x y hcal
   have ha:=hargs _ hcal
   obtain⟨rfl,rfl,rfl,rfl⟩:=vl h
   exact aZ (BL hop hcal (by rw [ha];simp [ab,V.den]) hrel) (hK W hrefl)
  ·rename_i x y hcal
   have ha:=hargs _ hcal
   obtain⟨rfl,rfl,rfl,rfl⟩:=vl h
   exact aZ (BJ hop hcal (by rw [ha];simp [ab,V.den]) hrel) (hK W hrefl)
  ·-- a function
   rename_i f g cap args' hcal
   split at h
   ·rename_i hcap
    unfold l8 at h
    split at h
    ·rename_i sh' rw' hsh hrw hen
     split at h
     ·rename_i hsls
      injection h with h1 h2 h3 h4
      subst h1;subst h2;subst h3;subst h4
      obtain⟨vv,hbv⟩:=hbs (by simp [bM,hcal])
      rw [hbv]at hrw hrel
      obtain⟨K',as',ha,hR,hK',_⟩:=JJ hI hKf hrw hrel
      obtain⟨h5,h6⟩:=ft hI hKf hrw ha
      have hcall:=hC.r K' g as' v W hR h6 hK'
      rw [h5]at hcall
      have hcap':cap=[]:=by simpa using hcap
      subst hcap'
      simp only [Op.operands,Call.operands,hcal,ab,V.den]at he
      simp at he
      obtain⟨h7,h8⟩:=he
      obtain⟨cal,ar,at'⟩:=c
      simp only at hcal h8
      subst hcal
      have hsl0:(C.sh g).so []=[]:=by unfold Cx.sh;rw [hsh];exact hsls
      refine ij hop h7 (vs:=(ab ρ α args').toArray) ?_ (cR hen _ _) (R:=fun u W'=>u=v∧Below W.heap.size W W') (hcall.mono fun e W' ⟨hb,hdr,he,_⟩=>⟨v,by rw [he,uB _ _ _ _ hsl0],rfl,hb⟩) ?_
      ·exact Array.ext' (by simpa using h8)
      rintro u W' ⟨rfl,hb⟩
      exact hK _ hb
     ·split at h<;>cases h
     cases h
    cases h
   exact(Dq h).elim
  cases h
 ·split at h
  ·split at h
   ·split at h<;>split at h<;>cases h
   cases h
  cases h
 cases h
theorem Hm{q q':cO}{f:Value→Option Value}{x:V}{args:List V}{sh:Sh}{mk:Option V}{new:Option ae}{wr:Option (Nat×ae)}(h:Hl q f x=.df q' args sh mk new wr):new=none∧wr=none:=by
 unfold Hl at h
 repeat' split at h
 all_goals (cases h;try exact⟨rfl,rfl⟩)
theorem Hn{q q':cO}{f:Value→Value→Option Value}{x y:V}{args:List V}{sh:Sh}{mk:Option V}{new:Option ae}{wr:Option (Nat×ae)}(h:H9 q f x y=.df q' args sh mk new wr):new=none∧wr=none:=by
 unfold H9 at h
 repeat' split at h
 all_goals (cases h;try exact⟨rfl,rfl⟩)
theorem k8{bs:List (Nat×Option ae)}{s i:V}{sz o:Nat}{q:cO}{args:List V}{sh:Sh}{mk:Option V}{new:Option ae}{wr:Option (Nat×ae)}(h:eM bs s i sz o=.df q args sh mk new wr):new=none∧wr=none:=by
 unfold eM at h
 repeat' split at h
 all_goals (cases h;try exact⟨rfl,rfl⟩)
theorem s8{bs:List (Nat×Option ae)}{b:Bool}{n:Nat}{s i:V}{sz o:Nat}{q:cO}{args:List V}{sh:Sh}{mk:Option V}{new:Option ae}{wr:Option (Nat×ae)}(h:jE bs b n s i sz o=.df q args sh mk new wr):new=none∧wr=none:=by
 unfold jE at h
 repeat' split at h
 all_goals first|exact(xD h).elim|(cases h;try exact⟨rfl,rfl⟩)
theorem Dy{t:TypeId}{lo hi mx:Bool}{x:V}{bs:List V}{q:cO}{args:List V}{sh:Sh}{mk:Option V}{new:Option ae}{wr:Option (Nat×ae)}(h:qC C t lo hi mx x bs=.df q args sh mk new wr):new=none∧wr=none:=by
 unfold qC at h
 repeat' split at h
 all_goals (cases h;try exact⟨rfl,rfl⟩)
theorem ID{sh:List Sh}{nm:Nat}{op:Op}{vs:List V}{bs:List (Nat×Option ae)}{q:cO}{args:List V}{sh':Sh}{mk:Option V}{new:Option ae}{wr:Option (Nat×ae)}(h:fI C sh nm op vs bs=.df q args sh' mk new wr)(hnw:¬ (new=none∧wr=none)) :
 (∃ t x y n i sz o v c e k,op=.store t x y∧vs=[.ep (.row n) i sz o,v]∧kz bs n=some (c,e,sz)∧aM C.P t=some k∧v.cells.length=k∧0<k∧oX sh v.cells=true∧q=.rset sz o∧args=.cat c::i::v.cells∧mk=some (.k undef)∧new=none∧wr=some (n,⟨[.x sh.length []],e,.row sz⟩)) ∨
 (∃ c t x y,op=.call c∧c.callee=.builtin .append∧c.argTypes.toList=[t,t]∧vs=[x,y]∧ko C bs nm sh.length t x y=.df q args sh' mk new wr) ∨
 (∃ t xo lo hi mx n as',op=.slice t xo lo hi mx∧vs=.row n::as'∧nR C bs nm sh.length t lo.isSome hi.isSome mx.isSome n as'=.df q args sh' mk new wr) ∨
 (∃ c t x y,op=.call c∧c.callee=.builtin .append∧c.argTypes.toList=[t,t]∧vs=[x,y]∧kp C bs nm sh.length (My C c) t x y=.df q args sh' mk new wr) ∨
 (∃ c f g cap as',op=.call c∧c.callee=.value f∧vs=.f (.func g) [] cap::as'∧cap.isEmpty=true∧l8 C bs nm sh.length g c.argTypes.toList as'=.df q args sh' mk new wr) ∨
 (∃ c f g cap as',op=.call c∧c.callee=.value f∧vs=.f (.func g) [] cap::as'∧kq C bs nm sh.length g c.argTypes.toList as' cap=.df q args sh' mk new wr) ∨
 (∃ t xo yo x y e sz z by',op=.makeSlice t xo yo∧vs=[x,y]∧dG C.P t=some e∧aM C.P e=some sz∧zeroOf C.P e=some z∧bytesOf C.P e=some by'∧0<sz∧q=.mks z sz by'∧args=[x,y]∧sh'=.any∧mk=some (.row nm)∧new=some ⟨[.x sh.length []],e,.row sz⟩∧wr=none):=by
 unfold fI at h
 split at h
 case h_19 =>
  rename_i t xo yo n i sz o v
  split at h
  ·rename_i c e sz' k hrow hs
   split at h
   ·split at h<;>cases h
   split at h
   ·rename_i hc
    obtain⟨rfl,h2,h3,h4⟩:=hc
    cases h
    exact .inl ⟨t,xo,yo,n,i,sz',o,v,c,e,k,rfl,rfl,hrow,hs,h2,h3,h4,rfl,rfl,rfl,rfl,rfl⟩
   cases h
  cases h
 case h_27=>exact .inr (.inr (.inl ⟨_,_,_,_,_,_,_,rfl,rfl,h⟩))
 case h_32 =>
  rename_i c
  split at h
  ·rename_i x y hcal
   split at h
   ·rename_i t t' hts
    split at h
    ·rename_i htt
     subst htt
     split at h
     ·exact .inr (.inr (.inr (.inl ⟨c,t,_,_,rfl,hcal,hts,rfl,h⟩)))
     exact .inr (.inl ⟨c,t,_,_,rfl,hcal,hts,rfl,h⟩)
    cases h
   cases h
  case h_7 =>
   rename_i hcal
   split at h
   ·rename_i hcap
    exact .inr (.inr (.inr (.inr (.inl ⟨c,_,_,_,_,rfl,hcal,rfl,hcap,h⟩))))
   exact .inr (.inr (.inr (.inr (.inr (.inl ⟨c,_,_,_,_,rfl,hcal,rfl,h⟩)))))
  all_goals (exfalso;(repeat' split at h)<;>first|exact hnw (Hm h)|exact hnw (Hn h)|(cases h;done)|(cases h;exact hnw ⟨rfl,rfl⟩))
 case h_33 =>
  split at h
  ·rename_i e hsl
   split at h
   ·rename_i sz z by' hsz hz hb
    split at h
    ·split at h<;>cases h
    split at h
    ·rename_i h0
     cases h
     exact .inr (.inr (.inr (.inr (.inr (.inr ⟨_,_,_,_,_,e,sz,z,by',rfl,rfl,hsl,hsz,hz,hb,h0,rfl,rfl,rfl,rfl,rfl,rfl⟩)))))
    cases h
   cases h
  cases h
 all_goals (exfalso;(repeat' split at h)<;>first|exact hnw (Hm h)|exact hnw (Hn h)|exact hnw (k8 h)|exact hnw (s8 h)|exact hnw (Dy h)|(cases h;done)|(cases h;exact hnw ⟨rfl,rfl⟩))
theorem AF{xs tl cs:List Value}(h:cs.length≤tl.length):cE (xs++tl).toArray xs.length cs.toArray=(xs++cs++tl.drop cs.length).toArray:=by
 unfold cE
 simp
theorem Oc{args:Array Operand}{f:Operand→Value}{x y:Value}(h:args.map f=#[x,y]):∃ p q,args=#[p,q]∧f p=x∧f q=y:=by
 have h1:args.size=2:=by have:=congrArg Array.size h;simpa using this
 refine⟨args[0],args[1],?_,?_,?_⟩
 ·apply Array.ext
  ·simp [h1]
  intro i hi hi2
  have:i=0∨i=1:=by omega
  rcases this with rfl|rfl<;>rfl
 ·have:=congrArg (fun a=>a[0]?) h;simpa [h1]using this
 ·have:=congrArg (fun a=>a[1]?) h;simpa [h1]using this
theorem Jm{sh0:List Sh}{t:TypeId}{xo yo:Operand}{n sz off k:Nat}{i vv:V}{c:List V}{e:TypeId}{v:Value}(hsh:sh0<+:s.sh)(hop:o.op=.store t xo yo)(hx:a.eval xo=yz ((α n).h) (i.den ρ α) sz off)(hy:a.eval yo=vv.den ρ α)(hrow:s.hp[n]?=some (some ⟨c,e,.row sz⟩))(hs:aM C.P t=some k)(hk:vv.cells.length=k)(hk0:0<k)(hone:oX sh0 vv.cells=true)
 (hI:ay w0 ps T ρ s a W α) (hv:ρ[sh0.length]?=some v) (hrel:(cO.rset sz off).rel C ρ α (.cat c::i::vv.cells) v) (hw:aP s nm (.k undef) none (some (n,⟨[.x sh0.length []],e,.row sz⟩))=true) (hK:∀ a' W',Inv w0 ps T ρ (s.cX nm o.dst (.k undef) none (some (n,⟨[.x sh0.length []],e,.row sz⟩))) a' W'→K a' W'):o.wp C.P a W K Q:=by
 have hr:iI (aa ((V.cat c).den ρ α)).length sz (i.den ρ α)∧off+vv.cells.length≤sz∧v=.agg ((aa ((V.cat c).den ρ α)).take (idxOf (i.den ρ α)*sz+off)++ab ρ α vv.cells++(aa ((V.cat c).den ρ α)).drop (idxOf (i.den ρ α)*sz+off+vv.cells.length)).toArray:=hrel
 obtain⟨hbd,hlt,rfl⟩:=hr
 refine xT (sh0:=sh0) hop hx hy hrow hs hk hk0 (pw hI.good hsh α hone) hI hbd hlt ?_ hw hK
 simp only [V.den,aa]at hv
 simp [ab,V.den,List.getD_eq_getElem?_getD,hv,aa]
theorem vr{α:Type}(l1:List α)(x:α)(l2:List α):List.Sublist (l1++l2) (l1++(x::l2)):=(List.Sublist.refl _).append (List.sublist_cons_self _ _)
theorem AH{W:World}{sz:Nat}{t e:TypeId}{x:Arg}(hsl:C.P.underlying t=some (.slice e))(h0:0<sz)(hsz:x.sz=sz)(hrd:x.rd W)(hone:∀ u∈x.cells,u.oneCell'=true):∃ m,Src C.P sz t x.v m x.cells W∧x.cells.length=m*sz:=by
 unfold Arg.rd at hrd
 split at hrd
 ·rename_i A m c hv
  rw [hsz]at hrd
  rw [hv]
  replace hrd:=hrd.1
  cases A with
  | none =>
   have hm:m=0:=by
    rcases Nat.eq_zero_or_pos m with h|h
    ·exact h
    obtain⟨ad,e,_⟩:=hrd.2 h
    cases e
   subst hm
   have hc:x.cells=[]:=List.eq_nil_of_length_eq_zero (by simpa using hrd.1)
   exact⟨0,by rw [hc];exact Src.ofNil W hsl c,by rw [hc];simp⟩
  | some ad =>
   refine⟨m,Src.ofSlice W hsl ad m c x.cells hrd.1 (fun j u hu=>?_) hone,hrd.1⟩
   obtain⟨ad',e',hcl⟩:=Rd.in hrd (List.getElem?_eq_some_iff.1 hu).1
   cases e'
   exact hcl j u hu
 omega
theorem A5{t tx e:TypeId}{xo yo:Operand}{x pc:V}{vs cc:List V}{bT:Option Nat}{yv:Value}{cells:List Value}{sz by' m:Nat}{z:Value}(hop:o.op=.call { callee:=.builtin .append,args:=#[xo,yo],argTypes:=#[t,tx] }) (hx:a.eval xo=x.den ρ α) (hyv:a.eval yo=yv) (hSrc:Src C.P sz tx yv m cells W) (hml:cells.length=m*sz)
 (hsl:dG C.P t=some e) (hsz:aM C.P e=some sz) (hby:bytesOf C.P e=some by') (hz:zeroOf C.P e=some z) (hold:AY C.P (cA s.hp vs) e sz x=some (cc,bT)) (h0:0<sz) (hzs:z.cells.size=sz) (hbyl:by'≤1000000) (hpc:pc.den ρ α=.agg cells.toArray)
 (hb1:(((ab ρ α cc).flatMap aa).length+cells.length) / sz*by'≤140737488355328) (hb2:(((ab ρ α cc).flatMap aa).length+cells.length) / sz≤140737488355328) (hI:ay w0 ps T ρ s a W α) (hnm':aW s nm)
 (hw:aP s nm (.row nm) (some ⟨cc++[pc],e,.row sz⟩) (bT.map fun n=>(n,bA))=true) (hK:∀ a' W',Inv w0 ps T ρ (s.cX nm o.dst (.row nm) (some ⟨cc++[pc],e,.row sz⟩) (bT.map fun n=>(n,bA))) a' W'→K a' W'):o.wp C.P a W K Q:=by
 have hd:ab ρ α (cc++[pc])=ab ρ α cc++[.agg cells.toArray]:=by
  rw [dB]
  simp [ab,hpc]
 have hxsα:∀ α',ab ρ α' (cc++[pc])=ab ρ α (cc++[pc])→(⟨cc++[pc],e,.row sz⟩:ae).xs ρ α'=(ab ρ α cc).flatMap aa++cells:=fun α' h=>by
  unfold ae.xs
  simp only [h,hd,List.flatMap_append,List.flatMap_cons,List.flatMap_nil,aa,List.append_nil]
 have hsub2:∀ n,(cc.length=cc.length)→n*sz / sz=n:=fun n _=>Nat.mul_div_cancel _ h0
 have fromNil:(ab ρ α cc).flatMap aa=[]→x.den ρ α=.slice none 0 0 →
  (∀ (A:AV) (W':World) (u:Value),(∀ α',α' nm=A→u=(V.row nm).den ρ α')→(∀ α',α' nm=A→(∀ n,lv s.ln n=true→α' n=α n)→ab ρ α' (cc++[pc])=ab ρ α (cc++[pc])→aN ρ α' 0 s.hp=aN ρ α 0 s.hp →
   ((A.h=.slice none 0 0∧cells=[]∧W'=W)∨∃ cap,A.h=.slice (some ⟨A.b,0,none⟩) m cap∧(cells++A.tl).length=cap*sz∧m≤cap∧cap≤maxLen∧St w0 (⟨A.b,(cells++A.tl).toArray,e⟩::aN ρ α 0 s.hp) (dp a s T) (gD w0 ρ α 0 s.hp++ps) W'))→K (a.put o.dst u) W')→o.wp C.P a W K Q:=by
  intro hc0 hx0 hfin
  rcases Nat.eq_zero_or_pos m with rfl|hm
  ·have hcells:cells=[]:=List.eq_nil_of_length_eq_zero (by simpa using hml)
   exact rS hop (hx.trans hx0) hyv hSrc (aO hsl) hsz (hfin ⟨0,.slice none 0 0,[]⟩ W _ (fun α' h=>by simp only [V.den,h]) fun α' h1 _ _ _=>.inl ⟨rfl,hcells,rfl⟩)
  rw [hc0]at hb1 hb2
  simp only [List.length_nil,Nat.zero_add,hml,Nat.mul_div_cancel _ h0]at hb1 hb2
  refine iD (olds:=[]) hop (hx.trans hx0) rfl (by simp) hyv hSrc (aO hsl) hsz hz hzs hby (by omega) hbyl (by simpa using hb1) (by simpa using hb2) hI.st fun k cap Z W' _ hS hl hcap hmax=>?_
  simp only [List.nil_append,Nat.zero_add]at hS hl hcap ⊢
  exact hfin ⟨k,.slice (some ⟨k,0,none⟩) m cap,Z⟩ W' _ (fun α' h=>by simp only [V.den,h]) fun α' h1 _ _ _=>.inr ⟨cap,rfl,hl,hcap,hmax,hS⟩
 have hch:∀ α',ab ρ α' (cc++[pc])=ab ρ α (cc++[pc])→∀ (A:AV),α' nm=A→(⟨cc++[pc],e,.row sz⟩:ae).ch ρ α' (0+nm)=(match A.h with
  | .slice (some _) _ _=>some ⟨A.b,((ab ρ α cc).flatMap aa++cells++A.tl).toArray,e⟩
  | _=>none):=fun α' h A hA=>by
  simp only [ae.ch,Nat.zero_add,hA,hxsα α' h]
  rfl
 unfold AY at hold
 split at hold
 ·-- nothing
  obtain⟨rfl,rfl⟩:[]=cc∧none=bT:=by simpa using hold
  refine fromNil rfl rfl fun A W' u hu hcase=>gw hI hnm' rfl hw hK A (fun α' h1 h2 h3 h4=>?_) hu
  rcases hcase α' h1 h2 h3 h4 with ⟨hA,hcells,rfl⟩|⟨cap,hA,hl,hcap,hmax,hS⟩
  ·refine⟨?_,h0,.inl ⟨by rw [hxsα α' h3,hcells];rfl,by rw [h1,hA]⟩⟩
   rw [fS (k:=0) hnm'.1 (by rw [hch α' h3 A h1,hA]),h4]
   exact hI.st
  refine⟨St.perm ?_ (dg (k:=0) hnm'.1 (e:=⟨A.b,(cells++A.tl).toArray,e⟩) (by rw [hch α' h3 A h1,hA];rfl)),h0,.inr ⟨m,cap,by rw [h1];exact hA,by rw [hxsα α' h3];exact hml,by rw [hxsα α' h3,h1];exact hl,hcap,hmax⟩⟩
  rw [h4];exact hS
 ·-- a row
  rename_i n
  split at hold
  ·rename_i c' e' sz' hrow
   split at hold
   ·rename_i hes
    obtain⟨rfl,rfl⟩:=hes
    obtain⟨rfl,rfl⟩:c'=cc∧some n=bT:=by simpa using hold
    have hn:=fK hrow
    have hne:n≠nm:=sW (xm hn) hnm'.1
    have hset:(s.hp.set nm (some ⟨c'++[pc],e',.row sz'⟩)).set n (some bA)=(s.hp.set n (some bA)).set nm (some ⟨c'++[pc],e',.row sz'⟩):=List.set_comm _ _ (fun h=>hne h.symm)
    have hnm2:(s.hp.set n (some bA))[nm]?=some none:=by rw [List.getElem?_set_ne hne];exact hnm'.1
    obtain⟨_,hinfo⟩:=dV hI hn
    rcases hinfo with ⟨hx0,hh⟩|⟨len,cap,hh,hl1,hl2,hlc,hcm,hmem⟩
    ·refine fromNil hx0 hh fun A W' u hu hcase=>iR hI hnm' hw hK A (fun α' h1 h2 h3 h5 h4=>?_) rfl hu
     have hsame:aN ρ α' 0 (s.hp.set n (some bA))=aN ρ α 0 s.hp:=by
      obtain⟨l1,l2,q1,q2⟩:=cl (ρ:=ρ) (α:=α') (k:=0) hn
      rw [← h4,q1,q2]
      have:(⟨c',e',.row sz'⟩:ae).ch ρ α' (0+n)=none:=by
       have e5:=h5 n _ hn
       rw [Nat.zero_add,e5]
       simp only [ae.ch,hh]
      simp only [Option.bind_some,this]
      simp [bA,ae.ch]
     rcases hcase α' h1 h2 h3 h4 with ⟨hA,hcells,rfl⟩|⟨cap,hA,hl,hcap,hmax,hS⟩
     ·refine⟨?_,h0,.inl ⟨by rw [hxsα α' h3,hcells,hx0];rfl,by rw [h1,hA]⟩⟩
      rw [hset,fS (k:=0) hnm2 (by rw [hch α' h3 A h1,hA]),hsame]
      exact hI.st
     refine⟨?_,h0,.inr ⟨m,cap,by rw [h1];exact hA,by rw [hxsα α' h3,hx0];exact hml,by rw [hxsα α' h3,h1,hx0];exact hl,hcap,hmax⟩⟩
     rw [hset]
     refine St.perm ?_ (dg (k:=0) hnm2 (e:=⟨A.b,(cells++A.tl).toArray,e'⟩) (by rw [hch α' h3 A h1,hA,hx0];rfl))
     rw [hsame];exact hS
    have hxv:a.eval xo=.slice (some ⟨(α n).b,0,none⟩) len cap:=hx.trans hh
    rw [hl1,hml,← Nat.add_mul,Nat.mul_div_cancel _ h0]at hb1 hb2
    obtain⟨l1,l2,q1,q2⟩:=cl (ρ:=ρ) (α:=α) (k:=0) hn
    have hchn:(⟨c',e',.row sz'⟩:ae).ch ρ α (0+n)=some ⟨(α n).b,((ab ρ α c').flatMap aa++(α n).tl).toArray,e'⟩:=by
     simp only [ae.ch,Nat.zero_add,hh];rfl
    have hq1:aN ρ α 0 s.hp=l1++(⟨(α n).b,((ab ρ α c').flatMap aa++(α n).tl).toArray,e'⟩::l2):=by
     rw [q1]
     simp only [Option.bind_some,hchn,Option.toList_some,List.cons_append,List.nil_append]
    have hrest:∀ α',(∀ (m:Nat) (c:ae),s.hp[m]?=some (some c)→c.ch ρ α' m=c.ch ρ α m)→aN ρ α' 0 s.hp=aN ρ α 0 s.hp→aN ρ α' 0 (s.hp.set n (some bA))=l1++l2:=by
     intro α' h5 h4
     have e1:aN ρ α 0 (s.hp.set n (some bA))=l1++l2:=by
      rw [q2];simp [bA,ae.ch]
     rw [← e1]
     refine iM fun k b hb=>?_
     rcases bw hb with ⟨rfl,rfl⟩|⟨_,hb⟩
     ·simp [bA,ae.ch]
     simpa using h5 k b hb
    by_cases hroom:len+m≤cap
    ·have hlen3:cells.length≤(α n).tl.length:=by
      have:len*sz'+m*sz'≤cap*sz':=by rw [← Nat.add_mul];exact Nat.mul_le_mul_right _ hroom
      rw [List.length_append,hl1]at hl2
      omega
     have hsp:cE ((ab ρ α c').flatMap aa++(α n).tl).toArray (len*sz') cells.toArray=((ab ρ α c').flatMap aa++cells++(α n).tl.drop cells.length).toArray:=by
      rw [← hl1];exact AF hlen3
     have hS0:=hI.st
     rw [hq1]at hS0
     refine o5 hop hxv hyv hSrc (aO hsl) hsz hroom hS0 (pE l2 l1) ?_ fun W' hS=>?_
     ·simp only [List.size_toArray,hl2,← Nat.add_mul]
      exact Nat.mul_le_mul_right _ hroom
     refine iR hI hnm' hw hK ⟨(α n).b,.slice (some ⟨(α n).b,0,none⟩) (len+m) cap,(α n).tl.drop cells.length⟩ (fun α' h1 h2 h3 h5 h4=>⟨?_,h0,.inr ⟨len+m,cap,by rw [h1],?_,?_,hroom,hcm⟩⟩) rfl fun α' h1=>by simp only [V.den,h1]
     ·rw [hset]
      refine St.perm ?_ (dg (k:=0) hnm2 (e:=⟨(α n).b,((ab ρ α c').flatMap aa++cells++(α n).tl.drop cells.length).toArray,e'⟩) (by rw [hch α' h3 _ h1]))
      rw [hrest α' h5 h4,← hsp]
      exact hS.perm List.perm_middle
     ·rw [hxsα α' h3,List.length_append,hl1,hml,Nat.add_mul]
     rw [hxsα α' h3,h1]
     simp only [List.length_append,List.length_drop]at hl2 ⊢
     omega
    have holdc:(Builtin.firstCells sz' len (.slice (some ⟨(α n).b,0,none⟩) len cap)).run C.P W.drew=.ok ((ab ρ α c').flatMap aa).toArray W.drew:=by
     refine run_firstCells_some W.drew sz' len _ len cap _ hl1 fun j u hu=>?_
     have hrd2:=GM hI hn
     rw [hh]at hrd2
     replace hrd2:=hrd2.1
     obtain⟨ad',e2,hcl⟩:=Rd.in hrd2 (List.getElem?_eq_some_iff.1 hu).1
     cases e2
     have:=hcl j u hu
     simpa using this
    refine iD hop hxv holdc hl1 hyv hSrc (aO hsl) hsz hz hzs hby (by omega) hbyl hb1 hb2 hI.st fun k cap' Z W' _ hS hl hcap hmax=>?_
    refine iR hI hnm' hw hK ⟨k,.slice (some ⟨k,0,none⟩) (len+m) cap',Z⟩ (fun α' h1 h2 h3 h5 h4=>⟨?_,h0,.inr ⟨len+m,cap',by rw [h1],?_,?_,hcap,hmax⟩⟩) rfl fun α' h1=>by simp only [V.den,h1]
    ·rw [hset]
     refine St.perm ?_ (dg (k:=0) hnm2 (e:=⟨k,((ab ρ α c').flatMap aa++cells++Z).toArray,e'⟩) (by rw [hch α' h3 _ h1]))
     rw [hrest α' h5 h4]
     rw [hq1]at hS
     exact hS.oe (.cons_cons _ (vr _ _ _)) (.refl _) fun _ h=>h
    ·rw [hxsα α' h3,List.length_append,hl1,hml,Nat.add_mul]
    rw [hxsα α' h3,h1];exact hl
   cases hold
  cases hold
 cases hold
theorem J9{sh0:List Sh}{t:TypeId}{xo yo:Operand}{x y:V}{vs:List V}{q:cO}{args:List V}{sh:Sh}{mk:Option V}{new:Option ae}{wr:Option (Nat×ae)}{v:Value}(hop:o.op=.call { callee:=.builtin .append,args:=#[xo,yo],argTypes:=#[t,t] }) (hx:a.eval xo=x.den ρ α) (hy:a.eval yo=y.den ρ α) (hap:ko C (cA s.hp vs) nm sh0.length t x y=.df q args sh mk new wr)
 (hC:C.Ok) (hps:ll C w0 ps) (hI:ay w0 ps T ρ s a W α) (hv:ρ[sh0.length]?=some v) (hrel:q.rel C ρ α args v) (hnm:new=none∨aW s nm) (hw:aP s nm (bh sh0.length sh mk) new wr=true) (hK:∀ a' W',Inv w0 ps T ρ (s.cX nm o.dst (bh sh0.length sh mk) new wr) a' W'→K a' W'):o.wp C.P a W K Q:=by
 have hKf:Kf C W:=hI.fact hps.1
 unfold ko at hap
 split at hap
 case h_2=>cases hap
 rename_i e hsl
 split at hap
 case h_2=>cases hap
 rename_i sz by' z hsz hby hz
 split at hap
 case h_2=>cases hap
 rename_i cc bT src hold hsrc
 split at hap
 case isFalse=>cases hap
 rename_i hc
 obtain⟨h0,hzs,hbyl⟩:=hc
 cases hap
 have hnm':aW s nm:=hnm.resolve_left nofun
 obtain⟨xa,hargs,hxsz,hone,hb1,hb2,rfl⟩:=(hrel:∃ x,bK C ρ α [src] [y] [x]∧x.sz=sz∧ym x∧((aa ((V.cat cc).den ρ α)).length+x.cells.length) / sz*by'≤140737488355328∧((aa ((V.cat cc).den ρ α)).length+x.cells.length) / sz≤140737488355328∧v=.agg x.cells.toArray)
 obtain⟨hv1,hrd⟩:=ft hI hKf hsrc hargs
 have hyv:a.eval yo=xa.v:=by rw [hy];simpa [ab]using hv1.symm
 have hxrd:=hrd xa (by simp)
 simp only [V.den,aa]at hb1 hb2
 obtain⟨m,hSrc,hml⟩:=AH (C:=C) (t:=t) (aO hsl) h0 hxsz hxrd hone
 have hpc:(Hy C.stc sh0.length src).den ρ α=.agg xa.cells.toArray:=by
  have h0:(V.x sh0.length []).den ρ α=.agg xa.cells.toArray:=by simp [V.den,List.getD_eq_getElem?_getD,hv]
  unfold Hy
  split
  ·rename_i sz9 cs
   split
   ·have h9:=hargs.1
    rw [h9]
    simp only [V.den]
   exact h0
  exact h0
 exact A5 hop hx hyv hSrc hml hsl hsz hby hz hold h0 hzs hbyl hpc (by simpa using hb1) (by simpa using hb2) hI hnm' hw hK
theorem Lw.up{w0:eT}{h:Value}{B:Nat}(hf:fR B h)(hB:w0.w.heap.size≤B):Lw w0 h:=fun ad n c e hn=>Nat.le_trans hB (hf ad n c e hn)
theorem mZ{W:World}{A:Option Addr}{c sz:Nat}:Arg.rd W ⟨.slice A 0 c,sz,[]⟩:=⟨⟨by simp,fun h=>absurd h (by omega)⟩,Nat.zero_le _⟩
theorem u7{W W2:World}{ids:List Nat}{hdr:Value}{sz B:Nat}{cells:List Value}(h:Arg.rd W ⟨hdr,sz,cells⟩)(hs:bc ids W W2)(hf:fR B hdr)(hids:∀ b∈ids,b<B):Arg.rd W2 ⟨hdr,sz,cells⟩:=by
 unfold Arg.rd at h ⊢
 dsimp only at h ⊢
 split
 ·rename_i A n c
  obtain⟨h,hnc⟩:=h
  refine⟨⟨h.1,fun h0=>?_⟩,hnc⟩
  obtain⟨ad,rfl,hb,hc⟩:=h.2 h0
  have hB:=hf ad n c rfl h0
  exact((Rd.same (A:=some ad) h hs fun ad' e hm=>by
   cases e
   have:=hids _ hm
   omega).2 h0)
 rename_i hne
 split at h
 ·rename_i A n c
  exact(hne A n c rfl).elim
 exact h
theorem HA{W:World}{A:Option Addr}{L cap l h sz:Nat}{xs:List Value}(hr:Arg.rd W ⟨.slice A L cap,sz,xs⟩)(h1:l≤h)(h2:h≤L)(h3:L≤cap):Arg.rd W ⟨.slice (if cap=l then A else A.map (·.add (l*sz))) (h-l) (cap-l),sz,(xs.drop (l*sz)).take ((h-l)*sz)⟩:=by
 have hr:Rd W sz A L xs:=hr.1
 have:=(hr.take h2).cut (k:=l) (cap:=cap) h1 (by omega)
 refine⟨?_,by omega⟩
 show Rd W sz _ _ _
 rw [List.drop_take,← Nat.sub_mul]at this
 exact this
theorem BR{B:Nat}{A:Option Addr}{L cap l h c sz:Nat}(hf:fR B (.slice A L cap))(h1:l≤h)(h2:h≤L):fR B (.slice (if cap=l then A else A.map (·.add (l*sz))) (h-l) c):=by
 intro ad n c' e hn
 injection e with e1 e2 e3
 subst e2
 split at e1
 ·exact hf ad L cap (by rw [e1]) (by omega)
 cases A with
 | none=>cases e1
 | some ad' =>
  simp only [Option.map_some,Option.some.injEq]at e1
  subst e1
  rw [fa]
  exact hf ad' L cap rfl (by omega)
theorem wG{L cap l h m:Nat}{lo hi:Option Value}(hb:bU L L lo hi none=some (l,h,m))(hc:L≤cap):bU L cap lo hi none=some (l,h,cap)∧l≤h∧h≤L:=by
 unfold bU at hb ⊢
 simp only [Option.bind_some]at hb ⊢
 have bnd:∀ {y:Nat} {v:Value} {k:Nat},ik y v=some k→k≤y∧∀ y',y≤y'→ik y' v=some k:=fun {y v k} hk=>by
  unfold ik at hk
  split at hk
  ·rename_i kk i
   split at hk
   ·rename_i hi
    simp only [Option.some.injEq]at hk
    subst hk
    refine⟨by omega,fun y' hy=>?_⟩
    unfold ik
    dsimp only
    rw [if_pos ⟨hi.1,by omega⟩]
   cases hk
  cases hk
 cases hi with
 | none =>
  simp only [Option.bind_some]at hb ⊢
  cases lo with
  | none =>
   simp only [Option.bind_some,Option.some.injEq,Prod.mk.injEq]at hb ⊢
   obtain⟨rfl,rfl,rfl⟩:=hb
   exact⟨⟨rfl,rfl,trivial⟩,Nat.zero_le _,Nat.le_refl _⟩
  | some v =>
   cases hv:ik L v with
   | none=>simp [hv]at hb
   | some k =>
    simp only [hv,Option.bind_some,Option.some.injEq,Prod.mk.injEq]at hb ⊢
    obtain⟨rfl,rfl,rfl⟩:=hb
    exact⟨⟨rfl,rfl,trivial⟩,(bnd hv).1,Nat.le_refl _⟩
 | some u =>
  cases hu:ik L u with
  | none=>simp [hu]at hb
  | some q =>
   have h2:=(bnd hu).2 cap hc
   simp only [hu,h2,Option.bind_some]at hb ⊢
   cases lo with
   | none =>
    simp only [Option.bind_some,Option.some.injEq,Prod.mk.injEq]at hb ⊢
    obtain⟨rfl,rfl,rfl⟩:=hb
    exact⟨⟨rfl,rfl,trivial⟩,Nat.zero_le _,(bnd hu).1⟩
   | some v =>
    cases hv:ik q v with
    | none=>simp [hv]at hb
    | some k =>
     simp only [hv,Option.bind_some,Option.some.injEq,Prod.mk.injEq]at hb ⊢
     obtain⟨rfl,rfl,rfl⟩:=hb
     exact⟨⟨rfl,rfl,trivial⟩,(bnd hv).1,(bnd hu).1⟩
theorem Jw{sh0:List Sh}{t:TypeId}{xo:Operand}{lo hi mx:Option Operand}{n:Nat}{as':List V}{q:cO}{args:List V}{sh:Sh}{mk:Option V}{new:Option ae}{wr:Option (Nat×ae)}{v:Value}(hop:o.op=.slice t xo lo hi mx)(he:o.op.operands.toList.map a.eval=ab ρ α (.row n::as')){bs:List (Nat×Option ae)}(hbs:∃ hp,bs=cA hp (.row n::as')∧∀ (c:List V)(sz:Nat)(e:TypeId),hp[n]?=some (some ⟨c,e,.ext sz⟩)→s.hp[n]?=some (some ⟨c,e,.ext sz⟩))
 (hpl:nR C bs nm sh0.length t lo.isSome hi.isSome mx.isSome n as'=.df q args sh mk new wr) (hI:ay w0 ps T ρ s a W α) (hv:ρ[sh0.length]?=some v) (hrel:q.rel C ρ α args v) (hnm:new=none∨aW s nm) (hw:aP s nm (bh sh0.length sh mk) new wr=true) (hK:∀ a' W',Inv w0 ps T ρ (s.cX nm o.dst (bh sh0.length sh mk) new wr) a' W'→K a' W'):o.wp C.P a W K Q:=by
 unfold nR at hpl
 split at hpl
 case h_2=>cases hpl
 rename_i c sz hex
 split at hpl
 case isFalse=>cases hpl
 rename_i hc
 obtain⟨hmx,hsz⟩:=hc
 cases hpl
 have hnm':aW s nm:=hnm.resolve_left nofun
 obtain⟨hp,rfl,hsame⟩:=hbs
 obtain⟨e,hn0⟩:=sM hex
 have hn:=hsame _ _ _ hn0
 obtain⟨l,h,m,lo',hi',hopt,hbd,rfl⟩:=hrel
 simp only [V.den,aa]at hbd hv
 obtain⟨_,h0,A,L,cap,g1,g2,g3,g4⟩:=hI.rows n _ hn
 have g2:((ab ρ α c).flatMap aa).length=L*sz:=g2
 rw [g2,Nat.mul_div_cancel _ h0]at hbd
 obtain⟨hb2,hlh,hhL⟩:=wG hbd g3
 have hslc:nY false sz lo.isSome hi.isSome mx.isSome (ab ρ α (.row n::as'))=some (.slice (if cap=l then A else A.map (·.add (l*sz))) (h-l) (cap-l)):=by
  simp only [ab,V.den,nY,g1,hmx,hopt,Option.bind_some,hb2,Option.map_some]
 rw [hop]at he
 obtain⟨x,r,hx,ho,hr⟩:=vo he hslc
 obtain⟨A',L',cap',l1,h1,m1,rfl,hb3,heq⟩:=Hv hr
 obtain⟨et,he1,he2⟩:=Option.bind_eq_some_iff.1 hsz
 refine aZ (gX hop hx (aO he1) he2 ho hb3) ?_
 rw [← heq]
 have hfact:=mF hI hn
 have hxs:(⟨[.x sh0.length []],0,.ext sz⟩:ae).xs ρ α=(((ab ρ α c).flatMap aa).drop (l*sz)).take ((h-l)*sz):=by
  simp [ae.xs,ab,V.den,List.getD_eq_getElem?_getD,hv,aa]
 refine jw (b:=⟨[.x sh0.length []],0,.ext sz⟩) hI hnm' rfl hw hK ⟨0,.slice (if cap=l then A else A.map (·.add (l*sz))) (h-l) (cap-l),[]⟩ hI.st h0 ⟨_,_,_,rfl,?_,by omega,fun hlt=>?_⟩ (fun W2 hW2=>?_) fun α' h1 _=>by simp only [bh,Option.getD_some,V.den,h1]
 ·rw [hxs,List.length_take,List.length_drop,g2,← Nat.sub_mul]
  exact Nat.min_eq_left (Nat.mul_le_mul_right _ (by omega))
 ·have:=g4 (by omega)
  split
  ·exact this
  cases A with
  | none=>exact this
  | some _=>rfl
 rw [hxs]
 obtain⟨f1,f2⟩:=hfact W2 hW2
 rw [g1]at f1 f2
 exact⟨HA f1 hlh hhL g3,f2.imp (fun hf=>BR hf hlh hhL) fun hf=>⟨fun W3 h3=>HA (hf.1 W3 h3) hlh hhL g3,fun B hB=>BR (hf.2 B hB) hlh hhL⟩⟩
theorem Ig{sh0:List Sh}{t:TypeId}{xo yo:Operand}{x y:V}{vs:List V}{fr:Bool}{q:cO}{args:List V}{sh:Sh}{mk:Option V}{new:Option ae}{wr:Option (Nat×ae)}{v:Value}(hop:o.op=.call { callee:=.builtin .append,args:=#[xo,yo],argTypes:=#[t,t] }) (hx:a.eval xo=x.den ρ α) (hy:a.eval yo=y.den ρ α) (hap:kp C (cA s.hp vs) nm sh0.length fr t x y=.df q args sh mk new wr)
 (hps:ll C w0 ps) (hI:ay w0 ps T ρ s a W α) (hv:ρ[sh0.length]?=some v) (hrel:q.rel C ρ α args v) (hnm:new=none∨aW s nm) (hw:aP s nm (bh sh0.length sh mk) new wr=true) (hK:∀ a' W',Inv w0 ps T ρ (s.cX nm o.dst (bh sh0.length sh mk) new wr) a' W'→K a' W'):o.wp C.P a W K Q:=by
 have hKf:Kf C W:=hI.fact hps.1
 obtain⟨e,sz,by',z,src,hsl,hsz,hby,hz,hsrc,h0,hzs,hbyl,rfl,rfl,rfl,rfl,rfl,rfl⟩:=qy hap
 have hnm':aW s nm:=hnm.resolve_left nofun
 obtain⟨cells,xa,A,n,hxv,hKc,hA,hone0,hargs,hxsz,hone,hfr,hb1,hb2,rfl⟩:=hrel
 obtain⟨hv1,hrd⟩:=ft hI hKf hsrc hargs
 have hyv:a.eval yo=xa.v:=by rw [hy];simpa [ab]using hv1.symm
 have hxrd:=hrd xa (by simp)
 have hRd:Rd W sz A n cells:=by have:=hKf _ _ _ hKc;rw [hxv]at this;exact this.1
 have hcl:cells.length=n*sz:=hRd.1
 have hxe:a.eval xo=.slice A n n:=hx.trans hxv
 have hres:bh sh0.length Sh.any (some (V.row nm))=.row nm:=rfl
 rw [hres]at hw hK
 obtain⟨m,hSrc,hml⟩:=AH (C:=C) (t:=t) (aO hsl) h0 hxsz hxrd hone
 have hd:∀ α':Nat→AV,ab ρ α' [V.x sh0.length []]=[.agg (cells++xa.cells).toArray]:=fun α'=>by simp [ab,V.den,List.getD_eq_getElem?_getD,hv]
 have hxs:∀ (k:BK) (α':Nat→AV),(⟨[.x sh0.length []],e,k⟩:ae).xs ρ α'=cells++xa.cells:=fun k α'=>by simp [ae.xs,hd α',aa]
 have hsome:0<n→A.isSome=true:=fun hn=>by
  obtain⟨ad,rfl,_⟩:=hRd.2 hn
  rfl
 rcases Nat.eq_zero_or_pos m with rfl|hm
 ·-- nothing is appended
  have hcells:xa.cells=[]:=List.eq_nil_of_length_eq_zero (by simpa using hml)
  have hfr':fr=false:=by
   cases fr with
   | false=>rfl
   | true=>exact absurd hcells (hfr rfl)
  subst hfr'
  have hdone:K (a.put o.dst (.slice A n n)) W:=by
   refine jw (b:=⟨[.x sh0.length []],e,.ext sz⟩) hI hnm' rfl hw hK ⟨0,.slice A n n,[]⟩ hI.st h0 ⟨_,_,_,rfl,by rw [hxs,hcells];simpa using hcl,Nat.le_refl _,hsome⟩ (fun W2 hW2=>?_) fun α' h1 _=>by simp only [V.den,h1]
   rw [hxs,hcells,List.append_nil]
   have hK2:Kf C W2:=hI.st.pers _ (List.mem_append.2 (.inr hps.1)) W2 hW2
   refine⟨?_,.inr ⟨fun W3 h3=>?_,fun B hB=>?_⟩⟩
   ·have:=hK2 _ _ _ hKc;rw [hxv]at this;exact this
   ·have:=hps.2.1 W3 h3 _ _ _ (hA rfl);rw [hxv]at this;exact this
   ·have:=hps.2.2.1 B hB _ _ _ (hA rfl);rw [hxv]at this;exact this
  cases A with
  | some ad=>exact yy hop hxe (Nat.le_refl _) hyv hSrc (aO hsl) hsz hdone
  | none =>
   have hn0:n=0:=by
    rcases Nat.eq_zero_or_pos n with h|h
    ·exact h
    exact absurd (hsome h) (by simp)
   subst hn0
   exact rS hop hxe hyv hSrc (aO hsl) hsz hdone
 -- something is
 have hold:(Builtin.firstCells sz n (.slice A n n)).run C.P W.drew=.ok cells.toArray W.drew:=by
  cases A with
  | some ad =>
   refine run_firstCells_some W.drew sz n ad n n _ hcl fun j u hu=>?_
   obtain⟨ad',e2,hcl2⟩:=Rd.in hRd (List.getElem?_eq_some_iff.1 hu).1
   cases e2
   exact hcl2 j u hu
  | none =>
   have hn0:n=0:=by
    rcases Nat.eq_zero_or_pos n with h|h
    ·exact h
    exact absurd (hsome h) (by simp)
   subst hn0
   have:cells=[]:=List.eq_nil_of_length_eq_zero (by simpa using hcl)
   subst this
   rfl
 rw [hcl,hml,← Nat.add_mul,Nat.mul_div_cancel _ h0]at hb1 hb2
 refine iD (olds:=cells) hop hxe hold hcl hyv hSrc (aO hsl) hsz hz hzs hby (by omega) hbyl hb1 hb2 hI.st fun k cap Z W' hk hS hl hcap hmax=>?_
 have hlen:(cells++xa.cells).length=(n+m)*sz:=by rw [List.length_append,hcl,hml,Nat.add_mul]
 cases fr with
 | true =>
  refine gw (b:=⟨[.x sh0.length []],e,.row sz⟩) hI hnm' rfl hw hK ⟨k,.slice (some ⟨k,0,none⟩) (n+m) cap,Z⟩ (fun α' h1 h2 h3 h4=>⟨St.perm ?_ (dg (k:=0) hnm'.1 (e:=⟨k,(cells++xa.cells++Z).toArray,e⟩) ?_),h0,.inr ⟨n+m,cap,by rw [h1],by rw [hxs];exact hlen,by rw [hxs,h1];exact hl,hcap,hmax⟩⟩) fun α' h1=>by simp only [V.den,h1]
  ·rw [h4];exact hS
  simp only [ae.ch,Nat.zero_add,h1,hxs]
 | false =>
  refine jw (b:=⟨[.x sh0.length []],e,.ext sz⟩) hI hnm' rfl hw hK ⟨0,.slice (some ⟨k,0,none⟩) (n+m) cap,[]⟩ (hS.oe (List.sublist_cons_self _ _) (.refl _) fun _ h=>h) h0 ⟨_,_,_,rfl,by rw [hxs];exact hlen,hcap,fun _=>rfl⟩ (fun W2 hW2=>?_) fun α' h1 _=>by simp only [V.den,h1]
  rw [hxs]
  refine⟨⟨?_,hcap⟩,.inl fun ad n' c' e' _=>?_⟩
  ·have hblk:=hS.at_ (List.mem_cons_self ..)
   have hnd:=hS.nodup
   have hR:Rd W' sz (some ⟨k,0,none⟩) (n+m) (cells++xa.cells):=Rd.lY hblk hlen fun j u hu=>by
    rw [Nat.zero_add]
    have:(cells++xa.cells++Z)[j]?=some u:=by rw [List.getElem?_append_left (List.getElem?_eq_some_iff.1 hu).1];exact hu
    simpa using this
   refine hR.same hW2 fun ad e' hm=>?_
   cases e'
   have:(k::aX (aN ρ α 0 s.hp) (dp a s T)).Nodup:=hnd
   exact(List.nodup_cons.1 this).1 hm
  cases e'
  exact Nat.le_trans hI.st.bT.size hk
theorem LU{sh0:List Sh}{c:Go.Call}{t t':TypeId}{n oo l cp:Nat}{y:V}{vs:List V}{q:cO}{args:List V}{sh:Sh}{mk:Option V}{new:Option ae}{wr:Option (Nat×ae)}{v:Value}(hop:o.op=.call c)(hcal:c.callee=.builtin .append)(hat:c.argTypes.toList=[t,t'])(he:(Op.call c).operands.toList.map a.eval=ab ρ α [.sl n oo l cp,y])(hap:qx C (cA s.hp vs) nm sh0.length t t' n oo l cp y=.df q args sh mk new wr)
 (hps:ll C w0 ps) (hI:ay w0 ps T ρ s a W α) (hv:ρ[sh0.length]?=some v) (hrel:q.rel C ρ α args v) (hnm:new=none∨aW s nm) (hw:aP s nm (bh sh0.length sh mk) new wr=true) (hK:∀ a' W',Inv w0 ps T ρ (s.cX nm o.dst (bh sh0.length sh mk) new wr) a' W'→K a' W'):o.wp C.P a W K Q:=by
 have hKf:Kf C W:=hI.fact hps.1
 unfold qx at hap
 split at hap
 case h_2=>cases hap
 rename_i e B src hsl hB hsrc
 split at hap
 case h_2=>cases hap
 rename_i sz by' z hsz hby hz
 split at hap
 case isFalse=>cases hap
 rename_i hc
 obtain⟨rfl,rfl,hl0,hlen,h0,hzs,hbyl⟩:=hc
 injection hap with h1 h2 h3 h4 h5 h6
 subst h1;subst h2;subst h3;subst h4;subst h5;subst h6
 obtain⟨cal,ar,at'⟩:=c
 simp only at hcal hat
 subst hcal
 have hat2:at'=#[t',t']:=by rw [← Array.toArray_toList (xs:=at'),hat]
 subst hat2
 simp only [Op.operands,Call.operands,ab]at he
 obtain⟨xo,yo,rfl,hx,hy⟩:∃ p q',ar=#[p,q']∧a.eval p=(V.sl n oo cp cp).den ρ α∧a.eval q'=y.den ρ α:=oy (Array.ext' (by simpa using he))
 have hnm':aW s nm:=hnm.resolve_left nofun
 obtain⟨xa,hargs,hxsz,hone,hne,hone0,hb1,hb2,rfl⟩:=(hrel:∃ x,bK C ρ α [src] [y] [x]∧x.sz=sz∧ym x∧x.cells≠[]∧(∀ u∈aa ((V.a ((B.c.drop oo).take (cp*sz))).den ρ α),u.oneCell'=true)∧((aa ((V.a ((B.c.drop oo).take (cp*sz))).den ρ α)).length+x.cells.length) / sz*by'≤140737488355328∧((aa ((V.a ((B.c.drop oo).take (cp*sz))).den ρ α)).length+x.cells.length) / sz≤140737488355328∧v=.agg (aa ((V.a ((B.c.drop oo).take (cp*sz))).den ρ α)++x.cells).toArray)
 have hcl0:aa ((V.a ((B.c.drop oo).take (cp*sz))).den ρ α)=ab ρ α ((B.c.drop oo).take (cp*sz)):=by simp [V.den,aa]
 rw [hcl0]at hb1 hb2 hone0 hv
 obtain⟨hbn,hbk⟩:=c7 hB
 have hRd:Rd W sz (some ⟨(α n).b,oo,none⟩) cp (ab ρ α ((B.c.drop oo).take (cp*sz))):=Rd.jD (hI.st.at_ (hI.dt hbn hbk)) (by rw [cm]) (by rw [cm];simp [aj];omega)
 generalize hcells:ab ρ α ((B.c.drop oo).take (cp*sz))=cells at *
 obtain⟨hv1,hrd⟩:=ft hI hKf hsrc hargs
 have hyv:a.eval yo=xa.v:=by rw [hy];simpa [ab]using hv1.symm
 have hxrd:=hrd xa (by simp)
 have hcl:cells.length=cp*sz:=hRd.1
 have hxe:a.eval xo=.slice (some ⟨(α n).b,oo,none⟩) cp cp:=hx
 have hres:bh sh0.length Sh.any (some (V.row nm))=.row nm:=rfl
 rw [hres]at hw hK
 obtain⟨m,hSrc,hml⟩:=AH (C:=C) (t:=t') (aO hsl) h0 hxsz hxrd hone
 have hxs:∀ (α':Nat→AV),(⟨[.x sh0.length []],e,.row sz⟩:ae).xs ρ α'=cells++xa.cells:=fun α'=>by simp [ae.xs,ab,V.den,List.getD_eq_getElem?_getD,hv,aa]
 have hm:0<m:=by
  rcases Nat.eq_zero_or_pos m with rfl|hm
  ·exact absurd (List.eq_nil_of_length_eq_zero (by simpa using hml)) hne
  exact hm
 have hold:(Builtin.firstCells sz cp (.slice (some ⟨(α n).b,oo,none⟩) cp cp)).run C.P W.drew=.ok cells.toArray W.drew:=by
  refine run_firstCells_some W.drew sz cp _ cp cp _ hcl fun j u hu=>?_
  obtain⟨ad',e2,hcl2⟩:=Rd.in hRd (List.getElem?_eq_some_iff.1 hu).1
  cases e2
  exact hcl2 j u hu
 rw [hcl,hml,← Nat.add_mul,Nat.mul_div_cancel _ h0]at hb1 hb2
 refine iD (olds:=cells) hop hxe hold hcl hyv hSrc (aO hsl) hsz hz hzs hby (by omega) hbyl hb1 hb2 hI.st fun k cap Z W' hk hS hl hcap hmax=>?_
 have hlen2:(cells++xa.cells).length=(cp+m)*sz:=by rw [List.length_append,hcl,hml,Nat.add_mul]
 refine gw (b:=⟨[.x sh0.length []],e,.row sz⟩) hI hnm' rfl hw hK ⟨k,.slice (some ⟨k,0,none⟩) (cp+m) cap,Z⟩ (fun α' h1 h2 h3 h4=>⟨St.perm ?_ (dg (k:=0) hnm'.1 (e:=⟨k,(cells++xa.cells++Z).toArray,e⟩) ?_),h0,.inr ⟨cp+m,cap,by rw [h1],by rw [hxs];exact hlen2,by rw [hxs,h1];exact hl,hcap,hmax⟩⟩) fun α' h1=>by simp only [V.den,h1]
 ·rw [h4];exact hS
 simp only [ae.ch,Nat.zero_add,h1,hxs]
theorem vZ(hI:ay w0 ps T ρ s a W α)(hps:ll C w0 ps){vv:List V}:∀ {ts:List TypeId}{vs:List V}{rw:List Rw}{as':List Arg},dK C.P (cA s.hp vv) ts vs=some rw→bK C ρ α rw vs as'→∀ (j:Nat)(x:Arg),as'[j]?=some x→(∀ sz,rw[j]?=some (.ext sz)→C.A x.v x.sz x.cells) →
 (∃ v,vs[j]?=some v∧(match v with|.x _ _=>true|.row n=>(uz (cA s.hp vv) n).isSome|.k (.slice none 0 _)=>true|.sl n _ _ _=>Bm (cA s.hp vv) n|_=>false)=true)→∀ W2,bc (aX (aN ρ α 0 s.hp) (dp a s T)) W W2→jv w0 x W2
 | [],[],rw,as',h,ha,j,x,hj,_,⟨v,hv,_⟩,W2,_=>by simp at hv
 | [],_::_,rw,as',h,ha,_,_,_,_,_,_,_=>by simp [dK]at h
 | _::_,[],rw,as',h,ha,_,_,_,_,_,_,_=>by simp [dK]at h
 | t::ts,v::vs,rw,as',h,ha,j,x,hj,hA,hv,W2,hW2=>by
  unfold dK at h
  simp only [Option.bind_eq_some_iff,Option.map_eq_some_iff]at h
  obtain⟨r,hr,rw',hrw,rfl⟩:=h
  cases as' with
  | nil=>simp at hj
  | cons x0 xs =>
  have hK2:Kf C W2:=hI.st.pers _ (List.mem_append.2 (.inr hps.1)) W2 hW2
  have htl:bK C ρ α rw' vs xs:=by
   cases r with
   | no=>exact ha.2.2
   | own _ _=>exact ha.2
   | ext _=>exact ha.2.2.2
   | row _ _=>exact ha.2
  cases j with
  | succ j=>exact vZ hI hps hrw htl j x (by simpa using hj) (fun sz hsz=>hA sz (by simpa using hsz)) (by simpa using hv) W2 hW2
  | zero =>
   obtain rfl:x0=x:=by simpa using hj
   obtain⟨v',hv',hok⟩:=hv
   obtain rfl:v=v':=by simpa using hv'
   have noSl:∀ u:Value,MA u=false→x0=⟨u,0,[]⟩→jv w0 x0 W2:=fun u hu hx0=>by
    subst hx0
    have:∀ W3,Arg.rd W3 ⟨u,0,[]⟩:=fun W3=>by
     unfold Arg.rd
     split
     ·rename_i hq
      dsimp only at hq
      rw [hq]at hu
      cases hu
     trivial
    exact⟨this W2,.inr ⟨fun W3 _=>this W3,fun B _ ad n c e _=>by dsimp only at e;rw [e]at hu;cases hu⟩⟩
   split at hok
   ·-- not known
    rename_i i p
    cases hsl:dG C.P t with
    | none =>
     rw [hsl]at hr
     obtain rfl:Rw.no=r:=by simpa using hr
     exact noSl _ ha.2.1 ha.1
    | some e =>
     rw [hsl]at hr
     simp only at hr
     split at hr
     ·rename_i sz hsz
      obtain rfl:Rw.ext sz=r:=by simpa using hr
      obtain⟨h1,h2,h3,_⟩:=ha
      have hAx:=hA sz rfl
      cases x0
      simp only at h1 h2
      subst h1;subst h2
      exact⟨hK2 _ _ _ h3,.inr ⟨fun W3 h4=>hps.2.1 W3 h4 _ _ _ hAx,fun B hB=>hps.2.2.1 B hB _ _ _ hAx⟩⟩
     cases hr
   ·rename_i n
    obtain⟨⟨c,sz⟩,hex⟩:=Option.isSome_iff_exists.1 hok
    obtain⟨e,hn⟩:=sM hex
    cases hsl:dG C.P t with
    | none=>rw [hsl]at hr;cases hr
    | some e' =>
     rw [hsl]at hr
     simp only [Option.map_eq_some_iff]at hr
     obtain⟨⟨c',e2,sz'⟩,hrow,rfl⟩:=hr
     obtain⟨k,hn',hk⟩:=dF hrow
     rw [hn]at hn'
     simp only [Option.some.injEq,ae.mk.injEq]at hn'
     obtain⟨rfl,rfl,rfl⟩:=hn'
     obtain rfl:sz=sz':=by simpa using hk
     obtain⟨rfl,_⟩:=ha
     exact mF hI hn W2 hW2
   ·rename_i cc
    cases hsl:dG C.P t with
    | none =>
     rw [hsl]at hr
     obtain rfl:Rw.no=r:=by simpa using hr
     exact noSl _ ha.2.1 ha.1
    | some e =>
     rw [hsl]at hr
     simp only at hr
     split at hr
     ·rename_i sz hsz
      obtain rfl:Rw.own sz []=r:=by simpa using hr
      obtain⟨rfl,_⟩:=ha
      have:∀ W3,Arg.rd W3 ⟨.slice none 0 cc,sz,[]⟩:=fun W3=>mZ
      exact⟨this W2,.inr ⟨fun W3 _=>this W3,fun B _ ad n c e _=>by simp [V.den]at e⟩⟩
     cases hr
   ·rename_i n oo l cc
    obtain⟨b0,hn0,hk0⟩:=Fy hok
    cases hsl:dG C.P t with
    | none=>rw [hsl]at hr;cases hr
    | some e =>
     rw [hsl]at hr
     simp only at hr
     split at hr
     ·rename_i sz b hsz hb
      split at hr
      ·rename_i hlt
       obtain rfl:Rw.own sz ((b.c.drop oo).take (l*sz))=r:=by simpa using hr
       obtain⟨rfl,_⟩:=ha
       obtain⟨hn1,_⟩:=fY hb
       rw [hn0]at hn1
       simp only [Option.some.injEq]at hn1
       subst hn1
       obtain⟨hf1,hf2⟩:=hI.N9 hn0 hk0 W2 hW2
       refine⟨⟨?_,hlt.2⟩,.inl fun ad len cap e _=>?_⟩
       ·show Rd W2 sz (some ⟨(α n).b,oo,none⟩) l (ab ρ α ((b0.c.drop oo).take (l*sz)))
        exact Rd.jD hf1 (by rw [cm]) (by rw [cm];simp [aj];omega)
       simp only [V.den]at e
       cases e
       exact hf2
      cases hr
     cases hr
   cases hok
theorem E6{sh0:List Sh}{c:Go.Call}{f:Operand}{g:FuncId}{args':List V}{q:cO}{args:List V}{sh:Sh}{mk:Option V}{new:Option ae}{wr:Option (Nat×ae)}{v:Value}{vv:List V}(hop:o.op=.call c)(hcal:c.callee=.value f)(he:o.op.operands.toList.map a.eval=ab ρ α (.f (.func g) [] []::args'))(hpl:l8 C (cA s.hp vv) nm sh0.length g c.argTypes.toList args'=.df q args sh mk new wr)(hnew:¬ (new=none∧wr=none))
 (hC:C.Ok) (hps:ll C w0 ps) (hI:ay w0 ps T ρ s a W α) (hv:ρ[sh0.length]?=some v) (hrel:q.rel C ρ α args v) (hfit:sh.fit v=true) (hnm:new=none∨aW s nm) (hw:aP s nm (bh sh0.length sh mk) new wr=true) (hK:∀ a' W',Inv w0 ps T ρ (s.cX nm o.dst (bh sh0.length sh mk) new wr) a' W'→K a' W'):o.wp C.P a W K Q:=by
 have hKf:Kf C W:=hI.fact hps.1
 unfold l8 at hpl
 split at hpl
 case h_2=>cases hpl
 rename_i sh' rw' hsh hrw hen
 split at hpl
 ·cases hpl
  exact absurd ⟨rfl,rfl⟩ hnew
 case h_3=>cases hpl
 rename_i p sz hsls
 split at hpl
 case isFalse=>cases hpl
 rename_i hc
 obtain⟨h0,hali⟩:=hc
 cases hpl
 have hnm':aW s nm:=hnm.resolve_left nofun
 obtain⟨K',as',ha,hR,hK',hArel⟩:=JJ hI hKf hrw hrel
 obtain⟨h5,h6⟩:=ft hI hKf hrw ha
 have hcall:=hC.r K' g as' v W hR h6 hK'
 rw [h5]at hcall
 have hshg:C.sh g=sh:=by unfold Cx.sh;rw [hsh];rfl
 rw [hshg,hsls]at hcall
 rw [hop]at he
 simp only [Op.operands,Call.operands,hcal,ab,V.den]at he
 simp at he
 obtain⟨h7,h8⟩:=he
 obtain⟨cal,ar,at'⟩:=c
 simp only at hcal h8 hrw
 subst hcal
 have hres:bh sh0.length sh (some (sh.pZ nm sh0.length []))=sh.pZ nm sh0.length []:=rfl
 rw [hres]at hw hK
 refine ij hop h7 (vs:=(ab ρ α args').toArray) ?_ (cR hen _ _) (R:=fun u W'=>Below W.heap.size W W'∧∃ hdr,u=sh.fill hdr v∧mi C g as' W W' hdr sz (aa (p.foldl comp v))) (hcall.mono fun e W' ⟨hb,hdr,he,hh⟩=>⟨_,he,hb,hdr,rfl,hh p sz (List.mem_cons_self ..)⟩) ?_
 ·exact Array.ext' (by simpa using h8)
 rintro u W' ⟨hb,hdr,rfl,⟨A,len,cap,rfl,hlc⟩,hrd,hprov⟩
 have hxs:(⟨[.x sh0.length p],0,.ext sz⟩:ae).xs ρ α=aa (p.foldl comp v):=by
  simp [ae.xs,ab,V.den,List.getD_eq_getElem?_getD,hv]
 have hrd':Rd W' sz A len (aa (p.foldl comp v)):=hrd.1
 refine jw (b:=⟨[.x sh0.length p],0,.ext sz⟩) hI hnm' rfl hw hK ⟨0,.slice A len cap,[]⟩ (hI.step hb).st h0 ⟨_,_,_,rfl,by rw [hxs];exact hrd'.1,hlc,fun hl=>?_⟩ (fun W2 hW2=>?_) fun α' h1 _=>?_
 ·obtain⟨ad,rfl,_⟩:=hrd'.2 hl
  rfl
 ·rw [hxs]
  rcases hprov with hf|⟨j,hj,x,hx,hr2,hf2⟩
  ·exact⟨u7 hrd hW2 hf fun b hm=>(hI.st.gi hm).2,.inl (Lw.up hf hI.st.bT.size)⟩
  have hW:bc (aX (aN ρ α 0 s.hp) (dp a s T)) W W2:=(bc.below hb).trans hW2
  have hok:=List.all_eq_true.1 hali j hj
  have hvj:∃ v,args'[j]?=some v:=by
   cases hq:args'[j]? with
   | none=>rw [hq]at hok;cases hok
   | some v=>exact⟨v,rfl⟩
  obtain⟨vj,hvj⟩:=hvj
  rw [hvj]at hok
  have hx2:=vZ hI hps hrw ha j x hx (fun sz' hsz'=>hArel j hj x sz' hx hsz') ⟨vj,hvj,by
   revert hok
   cases vj with
   | k u=>cases u with
    | slice A n c=>cases A<;>(try cases n)<;>exact id
    | _=>exact id
   | _=>exact id⟩ W2 hW
  exact⟨hr2 W2 hx2.1,hx2.2.imp (fun h=>hf2 _ h) fun h=>⟨fun W3 h3=>hr2 W3 (h.1 W3 h3),fun B hB=>hf2 B (h.2 B hB)⟩⟩
 rw [wU ρ α' nm sh0.length sh [] v (by simp [List.getD_eq_getElem?_getD,hv]) hfit,h1]
theorem _root_.Go.Proofs.YtidekfgkpindbaaGreatDoor.St.wrote{w0:eT}{W W':World}{hs hs':List Ch}{os:List Ow}{ps:List (World→Prop)}(h:St w0 hs os ps W){k:Nat}{c c':Array Value}{t:TypeId}(hu:lD k c t c' hs hs')(hos:W'.os=W.os)(htp:W'.tape=W.tape)(hout:W'.output=W.output)(hsm:bc [k] W W')(hk:W'.heap[k]?=some (.cells c' t (0,0))):St w0 hs' os ps W':=by
 have hids:=hu.ids
 have hm:aX hs' os=aX hs os:=by unfold aX;rw [hids]
 have hnd:=List.nodup_append.1 h.nodup
 have hmem:=hu.mem
 have hkm:k∈aX hs os:=List.mem_append.2 (.inl (List.mem_map.2 ⟨_,hmem,rfl⟩))
 have hkl:=h.gi hkm
 have hoth:∀ b,b<W.heap.size→b≠k→W'.heap[b]?=W.heap[b]?:=fun b hb hn=>hsm.block b hb (by simpa using hn)
 refine⟨⟨hos.trans h.bT.os,htp.trans h.bT.tape,hout.trans h.bT.output,Nat.le_trans h.bT.size hsm.size,fun b hb hn=>?_⟩,fun e he=>?_,fun e he=>?_,by rw [hm];exact h.nodup,fun p hp W2 h2=>h.pers p hp W2 ?_⟩
 ·rw [hoth b (Nat.lt_of_lt_of_le hb h.bT.size) (by
   rintro rfl;rcases hkl.1 with h1|h1;· omega
   exact hn h1)]
  exact h.bT.block b hb hn
 ·rcases hu.of hnd.1 e he with rfl|⟨h1,h2⟩
  ·exact⟨(h.dt _ hmem).1,hk⟩
  have h3:=h.dt e h1
  exact⟨h3.1,(hoth _ (Array.getElem?_eq_some_iff.1 h3.2).1 h2).trans h3.2⟩
 ·have h3:=h.own e he
  refine⟨h3.1,(hoth _ (Array.getElem?_eq_some_iff.1 h3.2).1 ?_).trans h3.2⟩
  rintro rfl
  exact hnd.2.2 _ (List.mem_map.2 ⟨_,hmem,rfl⟩) _ (List.mem_flatMap.2 ⟨e,he,by simp [Ow.dt]⟩) rfl
 rw [hm]at h2
 exact bc.trans (ids:=aX hs os) ⟨hsm.size,fun b hb hn=>hoth b hb fun e=>hn (e▸hkm)⟩ h2
theorem sF{hp:List (Option ae)}{vv:List V}:∀ {cap:List V}{cs:List (Nat×ae)},pR (cA hp vv) cap=some cs→cap=cs.map (fun e=>V.p e.1 0)∧∀ e∈cs,hp[e.1]?=some (some e.2)∧e.2.k=.cells
 | [],cs,h=>by
  obtain rfl:[]=cs:=by simpa [pR]using h
  exact⟨rfl,fun _ h=>nomatch h⟩
 | v::l,cs,h=>by
  unfold pR at h
  split at h
  ·rename_i hq;cases hq
  ·rename_i n l' hq
   cases hq
   split at h
   ·rename_i b hb
    simp only [Option.map_eq_some_iff]at h
    obtain⟨cs',h1,rfl⟩:=h
    obtain⟨h2,h3⟩:=sF h1
    refine⟨by simp [h2],fun e he=>?_⟩
    rcases List.mem_cons.1 he with rfl|he
    ·exact c7 hb
    exact h3 e he
   cases h
  cases h
theorem uu{ρ:List Value}{α:Nat→AV}{hp:List (Option ae)}(hn:((aN ρ α 0 hp).map (·.id)).Nodup){n1 n2:Nat}{b1 b2:ae}{e1 e2:Ch}(h:n1≠n2)(h1:hp[n1]?=some (some b1))(h2:b1.ch ρ α n1=some e1)(h3:hp[n2]?=some (some b2))(h4:b2.ch ρ α n2=some e2):e1.id≠e2.id:=by
 have key:∀ {hp:List (Option ae)} {k:Nat},((aN ρ α k hp).map (·.id)).Nodup→∀ {n1 n2:Nat} {b1 b2:ae} {e1 e2:Ch},n1<n2→hp[n1]?=some (some b1)→b1.ch ρ α (k+n1)=some e1→hp[n2]?=some (some b2)→b2.ch ρ α (k+n2)=some e2→e1.id≠e2.id:=by
  intro hp
  induction hp with
  | nil=>intro k _ n1 n2 b1 b2 e1 e2 _ h1;simp at h1
  | cons o l ih =>
   intro k hn n1 n2 b1 b2 e1 e2 hlt h1 h2 h3 h4
   have hl:((aN ρ α (k+1) l).map (·.id)).Nodup:=by
    cases o with
    | none=>simpa [aN]using hn
    | some b =>
     unfold aN at hn
     rw [List.map_append]at hn
     exact(List.nodup_append.1 hn).2.1
   cases n2 with
   | zero=>omega
   | succ n2 =>
    cases n1 with
    | zero =>
     obtain rfl:o=some b1:=by simpa using h1
     rw [Nat.add_zero]at h2
     have hm:e2∈aN ρ α (k+1) l:=cU (by simpa using h3) (by rwa [show k+1+n2=k+(n2+1) by omega])
     unfold aN at hn
     simp only [h2,Option.toList_some,List.cons_append,List.nil_append,List.map_cons]at hn
     intro he
     exact(List.nodup_cons.1 hn).1 (he▸List.mem_map.2 ⟨e2,hm,rfl⟩)
    | succ n1 =>
     exact ih hl (n1:=n1) (n2:=n2) (b1:=b1) (b2:=b2) (by omega) (by simpa using h1) (by rwa [show k+1+n1=k+(n1+1) by omega]) (by simpa using h3) (by rwa [show k+1+n2=k+(n2+1) by omega])
 rcases Nat.lt_or_gt_of_ne h with hlt|hlt
 ·exact key hn hlt h1 (by rwa [Nat.zero_add]) h3 (by rwa [Nat.zero_add])
 exact(key hn hlt h3 (by rwa [Nat.zero_add]) h1 (by rwa [Nat.zero_add])).symm
theorem m9(hI:ay w0 ps T ρ s a W α)(hps:ll C w0 ps){vv:List V}{bs ns:List Nat}(hbs:∀ b∈bs,∃ (m:Nat)(B:ae)(e:Ch),s.hp[m]?=some (some B)∧B.ch ρ α m=some e∧b=e.id∧m∈ns):∀ {ts:List TypeId}{vs:List V}{rw:List Rw}{as':List Arg},dK C.P (cA s.hp vv) ts vs=some rw→bK C ρ α rw vs as'→(∀ m∈dJ vs,m∉ns)→∀ W2,bc bs W W2→∀ x∈as',x.rd W2
 | [],[],rw,as',h,ha,_,W2,_=>by
  obtain rfl:[]=rw:=by simpa [dK]using h
  cases as' with
  | nil=>exact fun _ h=>nomatch h
  | cons _ _=>exact ha.elim
 | [],_::_,rw,as',h,ha,_,_,_=>by simp [dK]at h
 | _::_,[],rw,as',h,ha,_,_,_=>by simp [dK]at h
 | t::ts,v::vs,rw,as',h,ha,hn,W2,hW2=>by
  have hndi:=(List.nodup_append.1 hI.st.nodup).1
  have hsub:∀ b0∈bs,b0∈aX (aN ρ α 0 s.hp) (dp a s T):=fun b0 hb0=>by
   obtain⟨m,B,e,h1,h2,rfl,_⟩:=hbs b0 hb0
   exact List.mem_append.2 (.inl (List.mem_map.2 ⟨_,cU (k:=0) h1 (by rw [Nat.zero_add];exact h2),rfl⟩))
  have hmu:bc (aX (aN ρ α 0 s.hp) (dp a s T)) W W2:=⟨hW2.size,fun b0 hb0 hn=>hW2.block b0 hb0 fun hm=>hn (hsub b0 hm)⟩
  have hne:∀ (m:Nat) (B:ae) (e:Ch),m∈dJ (v::vs)→s.hp[m]?=some (some B)→B.ch ρ α m=some e→e.id∉bs:=fun m B e hm h1 h2 hb=>by
   obtain⟨m2,B2,e2,h3,h4,h5,h6⟩:=hbs _ hb
   have hmm:m≠m2:=fun e=>hn m hm (e▸h6)
   exact uu hndi hmm h1 h2 h3 (e2:=e2) h4 h5
  unfold dK at h
  simp only [Option.bind_eq_some_iff,Option.map_eq_some_iff]at h
  obtain⟨r,hr,rw',hrw,rfl⟩:=h
  have key:∀ x xs,as'=x::xs→x.rd W2→bK C ρ α rw' vs xs→∀ x∈as',x.rd W2:=fun x xs h1 h3 h4=>by
   have h6:=m9 hI hps hbs hrw h4 (fun m hm=>hn m (by simp only [dJ,List.flatMap_cons,List.mem_append];exact .inr hm)) W2 hW2
   subst h1
   intro y hy
   rcases List.mem_cons.1 hy with rfl|hy
   ·exact h3
   exact h6 y hy
  split at hr
  ·rename_i n oo l cc e he
   split at hr
   ·rename_i sz b hsz hb
    split at hr
    ·rename_i hlt
     obtain rfl:Rw.own sz ((b.c.drop oo).take (l*sz))=r:=by simpa using hr
     cases as' with
     | nil=>exact ha.elim
     | cons x xs =>
      obtain⟨rfl,h4⟩:=ha
      refine key _ _ rfl ?_ h4
      have hblk2:W2.heap[(α n).b]?=some (.cells (ab ρ α b.c).toArray b.t (0,0)):=by
       obtain⟨hbn,hbk⟩:=fY hb
       rcases hbk with hbk|hbk
       ·have hblk:=hI.st.at_ (hI.dt hbn hbk)
        have hnb:=hne n b ⟨(α n).b,(ab ρ α b.c).toArray,b.t⟩ (by simp [dJ,uP]) hbn (by simp only [ae.ch,hbk])
        exact(hW2.block _ (Array.getElem?_eq_some_iff.1 hblk).1 hnb).trans hblk
       exact(hI.N9 hbn hbk W2 hmu).1
      refine⟨?_,hlt.2⟩
      show Rd W2 sz (some ⟨(α n).b,oo,none⟩) l (ab ρ α ((b.c.drop oo).take (l*sz)))
      exact Rd.jD hblk2 (by rw [cm]) (by rw [cm];simp [aj];omega)
    cases hr
   cases hr
  ·rename_i cc e he
   split at hr
   ·rename_i sz hsz
    obtain rfl:Rw.own sz []=r:=by simpa using hr
    cases as' with
    | nil=>exact ha.elim
    | cons x xs =>
     obtain⟨rfl,h4⟩:=ha
     refine key _ _ rfl ?_ h4
     exact⟨Rd.none_,Nat.zero_le _⟩
   cases hr
  ·rename_i i p e he
   split at hr
   ·rename_i sz hsz
    obtain rfl:Rw.ext sz=r:=by simpa using hr
    cases as' with
    | nil=>exact ha.elim
    | cons x xs =>
     obtain⟨h1,h2,h3,h4⟩:=ha
     refine key _ _ rfl ?_ h4
     have hK2:Kf C W2:=hI.st.pers _ (List.mem_append.2 (.inr hps.1)) W2 hmu
     have:=hK2 _ _ _ h3
     rw [← h1]at this
     cases x
     subst h2
     exact this
   cases hr
  ·rename_i n e he
   simp only [Option.map_eq_some_iff]at hr
   obtain⟨⟨c,e',sz⟩,hrow,rfl⟩:=hr
   cases as' with
   | nil=>exact ha.elim
   | cons x xs =>
    obtain⟨rfl,h4⟩:=ha
    refine key _ _ rfl ?_ h4
    obtain⟨k,hrn,hk⟩:=dF hrow
    show Arg.rd W2 ⟨(α n).h,sz,(ab ρ α c).flatMap aa⟩
    rcases hk with rfl|rfl
    ·have hrd:Arg.rd W ⟨(α n).h,sz,(ab ρ α c).flatMap aa⟩:=nV hI hrn (.inl rfl)
     obtain⟨_,hro⟩:=(hI.rows n _ hrn).2
     rcases hro with ⟨_,hh⟩|⟨len,cap,hh,_⟩
     ·rw [hh]at hrd ⊢
      exact⟨⟨hrd.1.1,fun h=>absurd h (by omega)⟩,hrd.2⟩
     have hnb:=hne n _ ⟨(α n).b,((⟨c,e',.row sz⟩:ae).xs ρ α++(α n).tl).toArray,e'⟩ (by simp [dJ,uP]) hrn (by simp only [ae.ch,hh])
     rw [hh]at hrd ⊢
     exact⟨hrd.1.same hW2 (fun ad e=>by cases e;exact hnb),hrd.2⟩
    exact(mF hI hrn W2 hmu).1
  ·cases hr
  ·cases hr
  ·cases hr
  obtain rfl:Rw.no=r:=by simpa using hr
  cases as' with
  | nil=>exact ha.elim
  | cons x xs =>
   obtain⟨rfl,h3,h4⟩:=ha
   refine key _ _ rfl ?_ h4
   unfold Arg.rd
   split
   ·rename_i hq
    dsimp only at hq
    rw [hq]at h3
    cases h3
   trivial
theorem E5{sh0:List Sh}{c:Go.Call}{f:Operand}{g:FuncId}{args' cap:List V}{q:cO}{args:List V}{sh:Sh}{mk:Option V}{new:Option ae}{wr:Option (Nat×ae)}{v:Value}{vv:List V}(hop:o.op=.call c)(hcal:c.callee=.value f)(he:o.op.operands.toList.map a.eval=ab ρ α (.f (.func g) [] cap::args'))(hpl:kq C (cA s.hp vv) nm sh0.length g c.argTypes.toList args' cap=.df q args sh mk new wr)
 (hC:C.Ok) (hps:ll C w0 ps) (hI:ay w0 ps T ρ s a W α) (hv:ρ[sh0.length]?=some v) (hrel:q.rel C ρ α args v) (hfit:sh.fit v=true) (hnm:new=none∨aW s nm) (hw:aP s nm (bh sh0.length sh mk) new wr=true) (hK:∀ a' W',Inv w0 ps T ρ (s.cX nm o.dst (bh sh0.length sh mk) new wr) a' W'→K a' W'):o.wp C.P a W K Q:=by
 have hKf:Kf C W:=hI.fact hps.1
 unfold kq at hpl
 split at hpl
 case h_2=>cases hpl
 rename_i j sz rw' cs hcw hrw hcs hen
 split at hpl
 case h_2=>cases hpl
 rename_i n b hj
 split at hpl
 case isFalse=>cases hpl
 rename_i hc
 obtain⟨h0,hb1,hnd,hnn⟩:=hc
 cases hpl
 have hnm':aW s nm:=hnm.resolve_left nofun
 obtain⟨hcap,hcb⟩:=sF hcs
 have hl:=m8 hrw
 obtain⟨as',ha,hR⟩:=hrel
 rw [List.take_left' hl.symm]at ha
 obtain⟨h5,h6⟩:=ft hI hKf hrw ha
 obtain⟨hnn,hdis⟩:=hnn
 have hndi:=(List.nodup_append.1 hI.st.nodup).1
 have hbm0:∀ b0∈cs.map (fun e=>(α e.1).b),∃ (m:Nat) (B:ae),s.hp[m]?=some (some B)∧B.k=.cells∧b0=(α m).b∧m∈cs.map (·.1):=fun b0 hb0=>by
  obtain⟨e,he,rfl⟩:=List.mem_map.1 hb0
  exact⟨e.1,e.2,(hcb e he).1,(hcb e he).2,rfl,List.mem_map.2 ⟨e,he,rfl⟩⟩
 have hbm:∀ b0∈cs.map (fun e=>(α e.1).b),∃ (m:Nat) (B:ae) (e:Ch),s.hp[m]?=some (some B)∧B.ch ρ α m=some e∧b0=e.id∧m∈cs.map (·.1):=fun b0 hb0=>by
  obtain⟨m,B,h1,h2,rfl,h4⟩:=hbm0 b0 hb0
  exact⟨m,B,⟨(α m).b,(ab ρ α B.c).toArray,B.t⟩,h1,by simp only [ae.ch,h2],rfl,h4⟩
 have hsub:∀ b0∈cs.map (fun e=>(α e.1).b),b0∈aX (aN ρ α 0 s.hp) (dp a s T):=fun b0 hb0=>by
  obtain⟨m,B,h1,h2,rfl,_⟩:=hbm0 b0 hb0
  exact List.mem_append.2 (.inl (List.mem_map.2 ⟨_,hI.dt h1 h2,rfl⟩))
 have hup:∀ {W2:World},bc (cs.map (fun e=>(α e.1).b)) W W2→bc (aX (aN ρ α 0 s.hp) (dp a s T)) W W2:=fun h=>⟨h.size,fun b0 hb0 hn=>h.block b0 hb0 fun hm=>hn (hsub b0 hm)⟩
 have hjl:=(List.getElem?_eq_some_iff.1 hj).1
 obtain⟨hn,hbk⟩:=hcb (n,b) (List.mem_of_getElem? hj)
 have hn:s.hp[n]?=some (some b):=hn
 have hbk:b.k=.cells:=hbk
 have hcall:=hC.w g as' ((cs.map (·.2.c)).map (ab ρ α)) v W (cs.map (fun e=>(α e.1).b)) (cs.map (·.2.t)) (α n).b j sz b.t hcw hR
  (fun x hx W2 hW2=>m9 hI hps hbm hrw ha (fun m hm hc=>by
   have:=List.all_eq_true.1 hdis m hm
   simp only [Bool.not_eq_true',List.contains_eq_mem,decide_eq_false_iff_not]at this
   exact this hc) W2 hW2 x hx)
  (fun u z cells hk W2 hW2=>hI.st.pers _ (List.mem_append.2 (.inr hps.1)) W2 (hup hW2) _ _ _ hk)
  (by
   unfold List.Nodup at hnd ⊢
   rw [List.pairwise_map]at hnd ⊢
   exact hnd.imp_of_mem fun {e e'} he he' hne=>uu (e1:=⟨(α e.1).b,(ab ρ α e.2.c).toArray,e.2.t⟩) (e2:=⟨(α e'.1).b,(ab ρ α e'.2.c).toArray,e'.2.t⟩) hndi hne (hcb e he).1 (by simp only [ae.ch,(hcb e he).2]) (hcb e' he').1 (by simp only [ae.ch,(hcb e' he').2]))
  (by simp) (by simp) (fun i b0 c0 t0 h1 h2 h3=>by
   simp only [List.getElem?_map,Option.map_eq_some_iff]at h1 h2 h3
   obtain⟨e,he,rfl⟩:=h1
   obtain⟨_,⟨e2,he2,rfl⟩,rfl⟩:=h2
   obtain⟨e3,he3,rfl⟩:=h3
   rw [he]at he2 he3
   cases he2;cases he3
   have:=hcb e (List.mem_of_getElem? he)
   exact hI.st.at_ (hI.dt this.1 this.2)) (by simp [hj]) (by simp [hj])
 rw [hop]at he
 simp only [Op.operands,Call.operands,hcal,ab,V.den]at he
 simp at he
 obtain⟨h7,h8⟩:=he
 obtain⟨cal,ar,at'⟩:=c
 simp only at hcal h8 hrw
 subst hcal
 have hres:bh sh0.length (.tp [.sl sz,.one]) (some (.row nm))=.row nm:=rfl
 rw [hres]at hw hK
 have hargs:(as'.map Arg.v++(cs.map (fun e=>(α e.1).b)).map fun b=>Value.pointer (some ⟨b,0,none⟩))=ab ρ α (args'++cap):=by
  rw [h5,aw,aw,List.map_append,hcap,List.map_map,List.map_map]
  congr 1
 rw [hargs]at hcall
 refine ij hop h7 (vs:=(ab ρ α (args'++cap)).toArray) ?_ (cR hen _ _) (R:=fun u W'=>W'.os=W.os∧W'.tape=W.tape∧W'.output=W.output∧bc [(α n).b] W W'∧W'.heap[(α n).b]?=some (.cells #[comp v 1] b.t (0,0))∧LA C (cs.map (fun e=>(α e.1).b)) W W' u sz (aa (comp v 0))) (hcall.mono fun e W' ⟨hdr,h1,h2⟩=>⟨hdr,h1,h2⟩) ?_
 ·exact Array.ext' (by simp [aw]at h8 ⊢;simp [h8])
 rintro u W' ⟨hos,htp,hout,hsm,hbl,⟨A,len,cp,rfl,hlc⟩,hrd,hprov⟩
 have hx1:ab ρ α [V.x sh0.length [1]]=[comp v 1]:=by simp [ab,V.den,List.getD_eq_getElem?_getD,hv]
 have hx0:(⟨[.x sh0.length [0]],0,.ext sz⟩:ae).xs ρ α=aa (comp v 0):=by simp [ae.xs,ab,V.den,List.getD_eq_getElem?_getD,hv]
 have hupd:lD (α n).b (ab ρ α b.c).toArray b.t #[comp v 1] (aN ρ α 0 s.hp) (aN ρ α 0 (s.hp.set n (some ⟨[.x sh0.length [1]],b.t,.cells⟩))):=gu (k:=0) hn (by simp only [ae.ch,hbk,Nat.zero_add]) (by simp only [ae.ch,Nat.zero_add,hx1])
 have hS:=hI.st.wrote hupd hos htp hout hsm hbl
 simp only [aP,nJ,Bool.and_eq_true,hI.good.len]at hw
 have hI1:=hI.OT hn (b':=⟨[.x sh0.length [1]],b.t,.cells⟩) hw.2.1 (by simp [ae.bo]) rfl hS
 have hids:=hupd.ids
 have hmu:aX (aN ρ α 0 (s.hp.set n (some ⟨[.x sh0.length [1]],b.t,.cells⟩))) (dp a s T)=aX (aN ρ α 0 s.hp) (dp a s T):=by unfold aX;rw [hids]
 have hfr:aW (s.lay n ⟨[.x sh0.length [1]],b.t,.cells⟩) nm:=⟨by simp only [S.lay];rw [List.getElem?_set_ne (fun e=>hnn e.symm)];exact hnm'.1,hnm'.2⟩
 refine jw (s:=s.lay n ⟨[.x sh0.length [1]],b.t,.cells⟩) (v:=.row nm) (b:=⟨[.x sh0.length [0]],0,.ext sz⟩) hI1 hfr rfl ?_ (fun a2 W2 h2=>hK a2 W2 ?_) ⟨0,.slice A len cp,[]⟩ hI1.st h0 ⟨_,_,_,rfl,by rw [hx0];exact hrd.1.1,hlc,fun hl=>?_⟩ (fun W2 hW2=>?_) fun α' h1 _=>by simp only [V.den,h1]
 ·simp only [aP,nJ,Bool.and_eq_true,Bool.and_true]
  rw [show(s.lay n ⟨[.x sh0.length [1]],b.t,.cells⟩).sh.length=ρ.length from hI.good.len]
  exact⟨hw.1.1,hw.1.2⟩
 ·have e:(s.lay n ⟨[.x sh0.length [1]],b.t,.cells⟩).make nm ⟨[.x sh0.length [0]],0,.ext sz⟩=(s.make nm ⟨[.x sh0.length [0]],0,.ext sz⟩).lay n ⟨[.x sh0.length [1]],b.t,.cells⟩:=by
   simp only [S.make,S.lay]
   rw [List.set_comm _ _ (fun e=>hnn e.symm)]
  unfold S.cX at h2 ⊢
  dsimp only at h2 ⊢
  rw [e]at h2
  exact h2
 ·have:=hrd.1.2 hl
  obtain⟨ad,rfl,_⟩:=this
  rfl
 rw [hx0]
 have hW2':bc (aX (aN ρ α 0 s.hp) (dp a s T)) W' W2:=by rw [← hmu];exact hW2
 rcases hprov with hf|⟨s',sz',cells',hk,hA,hr2,hf2⟩
 ·exact⟨u7 hrd hW2' hf fun b hm=>(hI.st.gi hm).2,.inl (Lw.up hf hI.st.bT.size)⟩
 have hK2:Kf C W2:=hS.pers _ (List.mem_append.2 (.inr hps.1)) W2 hW2
 exact⟨hr2 W2 (hK2 _ _ _ hk),.inr ⟨fun W3 h3=>hr2 W3 (hps.2.1 W3 h3 _ _ _ hA),fun B hB=>hf2 B (hps.2.2.1 B hB _ _ _ hA)⟩⟩
theorem KV{sh0:List Sh}{t:TypeId}{xo yo:Operand}{x y:V}{e:TypeId}{sz by':Nat}{z v:Value}(hop:o.op=.makeSlice t xo yo)(hvs:o.op.operands.toList.mapM s.ev=some [x,y])(hsl:dG C.P t=some e)(hsz:aM C.P e=some sz)(hz:zeroOf C.P e=some z)(hb:bytesOf C.P e=some by')(h0:0<sz)
 (hI:ay w0 ps T ρ s a W α) (hv:ρ[sh0.length]?=some v) (hrel:(cO.mks z sz by').rel C ρ α [x,y] v) (hnm:aW s nm) (hw:aP s nm (.row nm) (some ⟨[.x sh0.length []],e,.row sz⟩) none=true) (hK:∀ a' W',Inv w0 ps T ρ (s.cX nm o.dst (.row nm) (some ⟨[.x sh0.length []],e,.row sz⟩) none) a' W'→K a' W'):o.wp C.P a W K Q:=by
 have he:=cD hI.good hI.fm hvs
 rw [hop]at he
 simp [Op.operands,ab]at he
 obtain⟨kl,kc,L,M,hx,hy,hL0,hLM,hM,hby,rfl⟩:=(hrel:∃ kl kc L M,x.den ρ α=.int kl L∧y.den ρ α=.int kc M∧0≤L∧L≤M∧M≤140737488355328∧(by':Int)*M≤281474976710656∧v=.agg (madeCells z.cells (L.toNat*sz)))
 refine rU hop (he.1.trans hx) (he.2.trans hy) (aO hsl) hsz hz hb hL0 hLM hby (by omega) hI.st fun k W' hS _ _=>?_
 have hxs:∀ α',(⟨[.x sh0.length []],e,.row sz⟩:ae).xs ρ α'=(madeCells z.cells (L.toNat*sz)).toList:=fun α'=>by
  simp [ae.xs,ab,V.den,List.getD_eq_getElem?_getD,hv,aa]
 have hle:L.toNat*sz≤M.toNat*sz:=Nat.mul_le_mul_right _ (by omega)
 have htake:(madeCells z.cells (L.toNat*sz)).toList=(madeCells z.cells (M.toNat*sz)).toList.take (L.toNat*sz):=by
  apply List.ext_getElem
  ·simp only [madeCells,Array.length_toList,Array.size_map,Array.size_range,List.length_take]
   exact(Nat.min_eq_left hle).symm
  intro i h1 h2
  simp [madeCells]
 have hcat:(madeCells z.cells (L.toNat*sz)).toList++(madeCells z.cells (M.toNat*sz)).toList.drop (L.toNat*sz)=(madeCells z.cells (M.toNat*sz)).toList:=by
  rw [htake,List.take_append_drop]
 refine gw hI hnm rfl hw hK ⟨k,.slice (some ⟨k,0,none⟩) L.toNat M.toNat,(madeCells z.cells (M.toNat*sz)).toList.drop (L.toNat*sz)⟩ (fun α' h1 h2 h3 h4=>⟨?_,?_⟩) fun α' h1=>by simp only [V.den,h1]
 ·refine St.perm ?_ (dg (k:=0) hnm.1 (e:=⟨k,madeCells z.cells (M.toNat*sz),e⟩) ?_)
  ·rw [h4];exact hS
  simp only [ae.ch,Nat.zero_add,h1,hxs,hcat]
 refine⟨h0,.inr ⟨L.toNat,M.toNat,by rw [h1],?_,?_,by omega,by simp only [maxLen];omega⟩⟩
 ·rw [hxs];simp [madeCells]
 rw [hxs,h1,hcat];simp [madeCells]
theorem IC{sh0:List Sh}{q:cO}{args:List V}{sh:Sh}{mk:Option V}{new:Option ae}{wr:Option (Nat×ae)}{vs:List V}(hsh:sh0<+:s.sh)(hC:C.Ok)(hps:ll C w0 ps)(hvs:o.op.operands.toList.mapM s.ev=some vs)(h:fI C sh0 nm o.op vs (s.iA o.op vs)=.df q args sh mk new wr)(hI:ay w0 ps T ρ s a W α){v:Value}(hv:ρ[sh0.length]?=some v)(hrel:q.rel C ρ α args v)(hfit:sh.fit v=true)
 (hnm:new=none∨aW s nm) (hw:aP s nm (bh sh0.length sh mk) new wr=true) (hK:∀ a' W',Inv w0 ps T ρ (s.cX nm o.dst (bh sh0.length sh mk) new wr) a' W'→K a' W'):o.wp C.P a W K Q:=by
 by_cases hnw:new=none∧wr=none
 ·obtain⟨rfl,rfl⟩:=hnw
  refine IB hC hps hvs (fun hs=>⟨fz s.hp o.op vs,by simp [S.iA,dL,hs]⟩) (xj hI _ _) h hI hrel fun W' hb=>?_
  have hu:sX ρ α v mk=(bh sh0.length sh mk).den ρ α:=by
   cases mk with
   | some e=>rfl
   | none =>
    simp only [sX,bh,Option.getD_none]
    exact(iv ρ α _ sh [] v (by simp [List.getD_eq_getElem?_getD,hv]) hfit).symm
  rw [hu]
  exact aq (hI.step hb) hw hK
 have hsee:bM o.op=false→(Bb o.op || vp o.op)=false→s.iA o.op vs=cA s.hp vs:=fun hs hc=>by simp only [S.iA,dL,hs,Bool.false_and,fz,hc,Bool.false_eq_true,if_false]
 have appArgs:∀ (c:Go.Call) (t:TypeId) (x y:V),o.op=.call c→c.callee=.builtin .append→c.argTypes.toList=[t,t]→vs=[x,y]→∃ p q',c={ callee:=.builtin .append,args:=#[p,q'],argTypes:=#[t,t] }∧a.eval p=x.den ρ α∧a.eval q'=y.den ρ α:=by
  intro c t x y hop hcal hts hvs2
  subst hvs2
  have he:=cD hI.good hI.fm hvs
  rw [hop]at he
  obtain⟨cal,ar,at'⟩:=c
  simp only at hcal hts
  subst hcal
  have har:ar.map a.eval=#[x.den ρ α,y.den ρ α]:=by
   have:(ab ρ α [x,y]).toArray=#[x.den ρ α,y.den ρ α]:=by simp [ab]
   rw [← this,← he]
   exact Array.ext' (by simp [Op.operands,Call.operands])
  obtain⟨p,q',rfl,hp,hq⟩:=Oc har
  have hat:at'=#[t,t]:=by rw [← Array.toArray_toList (xs:=at'),hts]
  subst hat
  exact⟨p,q',rfl,hp,hq⟩
 rcases ID h hnw with ⟨t,xo,yo,n,i,sz,off,vv,c,e,k,hop,rfl,hrow,hs,hk,hk0,hone,rfl,rfl,rfl,rfl,rfl⟩|⟨c,t,x,y,hop,hcal,hts,rfl,hap⟩|⟨t,xo,lo,hi,mx,n,as',hop,rfl,hpl⟩|⟨c,t,x,y,hop,hcal,hts,rfl,hap⟩|⟨c,f,g,cap,as',hop,hcal,rfl,hcap,hpl⟩|⟨c,f,g,cap,as',hop,hcal,rfl,hpl⟩|⟨t,xo,yo,x,y,e,sz,z,by',hop,rfl,hsl,hsz,hz,hb,h0,rfl,rfl,rfl,rfl,rfl,rfl⟩
 ·have he:=cD hI.good hI.fm hvs
  rw [show s.iA o.op [.ep (.row n) i sz off,vv]=cA s.hp (fz s.hp o.op [.ep (.row n) i sz off,vv]) by simp [S.iA,hop,dL,bM]]at hrow
  rw [hop]at he
  simp [Op.operands,ab,V.den]at he
  exact Jm hsh hop he.1 he.2 (fK hrow) hs hk hk0 hone hI hv hrel hw hK
 ·rw [hsee (by rw [hop];simp [bM,hcal]) (by rw [hop];simp [Bb,vp,hcal])]at hap
  obtain⟨p,q',rfl,hp,hq⟩:=appArgs c t x y hop hcal hts rfl
  exact J9 hop hp hq hap hC hps hI hv hrel hnm hw hK
 ·rw [hsee (by rw [hop];rfl) (by rw [hop];rfl)]at hpl
  exact Jw hop (cD hI.good hI.fm hvs) ⟨s.hp,rfl,fun _ _ _ h=>h⟩ hpl hI hv hrel hnm hw hK
 ·rw [hsee (by rw [hop];simp [bM,hcal]) (by rw [hop];simp [Bb,vp,hcal])]at hap
  obtain⟨p,q',rfl,hp,hq⟩:=appArgs c t x y hop hcal hts rfl
  exact Ig hop hp hq hap hps hI hv hrel hnm hw hK
 ·rw [show s.iA o.op (.f (.func g) [] cap::as')=cA s.hp (fz s.hp o.op (.f (.func g) [] cap::as')) by simp [S.iA,hop,dL,bM,hcal]]at hpl
  have hcap':cap=[]:=by simpa using hcap
  subst hcap'
  exact E6 hop hcal (cD hI.good hI.fm hvs) hpl hnw hC hps hI hv hrel hfit hnm hw hK
 ·rw [show s.iA o.op (.f (.func g) [] cap::as')=cA s.hp (fz s.hp o.op (.f (.func g) [] cap::as')) by simp [S.iA,hop,dL,bM,hcal]]at hpl
  exact E5 hop hcal (cD hI.good hI.fm hvs) hpl hC hps hI hv hrel hfit hnm hw hK
 exact KV hop hvs hsl hsz hz hb h0 hI hv hrel (hnm.resolve_left nofun) hw hK
theorem vL{m N:Nat}{cs:List Value}{u:Value}{path:List Nat}(hv:path.foldl comp (ρ.getD m undef)=.agg cs.toArray)(hl:cs.length=N):ab ρ α ((List.range N).map fun j=>V.x m (path++[j]))=cs:=by
 subst hl
 rw [aw,List.map_map]
 conv=>rhs;rw [← qG cs undef]
 refine List.map_congr_left fun j _=>?_
 simp only [Function.comp,V.den,List.foldl_append,hv,List.foldl_cons,List.foldl_nil,wN]
theorem qi{D vs:List Value}{o q k L:Nat}(hq:q+k≤L)(hL:o+L≤D.length)(hk:vs.length=k):D.take o++(((D.drop o).take L).take q++vs++((D.drop o).take L).drop (q+k))++D.drop (o+L)=D.take (o+q)++vs++D.drop (o+q+k):=by
 have h1:D.take (o+q)=D.take o++((D.drop o).take L).take q:=by
  rw [List.take_take,Nat.min_eq_left (by omega),← List.take_add]
 have h2:D.drop (o+q+k)=((D.drop o).take L).drop (q+k)++D.drop (o+L):=by
  have e:D.drop o=(D.drop o).take L++D.drop (o+L):=by rw [← List.drop_drop,List.take_append_drop]
  rw [show D.drop (o+q+k)=(D.drop o).drop (q+k) by rw [List.drop_drop];congr 1;omega]
  conv=>lhs;rw [e]
  rw [List.drop_append_of_le_length (by simp;omega)]
 rw [h1,h2]
 simp only [List.append_assoc]
theorem jj{P:Program}{x ix:Operand}{t e:TypeId}{len n:Nat}{ad:Addr}{k:IntKind}{i:Int}(ho:o.op=.indexAddr t x ix)(hx:a.eval x=.pointer (some ad))(hi:a.eval ix=.int k i)(hu:gl P t=some (len,e))(h0:0≤i)(h1:i<len)
 (hs:aM P e=some n) (h:K (a.put o.dst (.pointer (some (ad.add (i.toNat*n))))) W):o.wp P a W K Q:=by
 unfold Oper.wp execOp
 simp only [ho,hx,hi,Instr.indexAt,Instr.sureAddr,asIntOf,Sem.run_bind,Sem.run_pure,Result.andThen_ok,run_underlying (j6 hu),if_pos (And.intro h0 h1),cj hs]
 exact h
theorem JD{P:Program}{t t' e:TypeId}{xo yo:Operand}{k kk:IntKind}{n:Int}{size by':Nat}{z:Value}{hs:List Ch}{os:List Ow}(ho:o.op=.call { callee:=.builtin .append,args:=#[xo,yo],argTypes:=#[t,t'] }) (hx:a.eval xo=.slice none 0 0) (hy:a.eval yo=.int k n)
 (hu:P.underlying t=some (.slice e)) (hk:P.underlying t'=some (.int kk)) (hsz:aM P e=some size) (hz:zeroOf P e=some z) (hzs:z.cells.size=size) (hb:bytesOf P e=some by') (h0:0<n) (hn:n≤70368744177664) (hby:n*(by':Int)≤140737488355328) (hS:St w0 hs os ps W)
 (h:∀ k' cap Z W',St w0 (⟨k',((madeCells z.cells (n.toNat*size)).toList++Z).toArray,e⟩::hs) os ps W'→((madeCells z.cells (n.toNat*size)).toList++Z).length=cap*size→n.toNat≤cap→cap≤maxLen→K (a.put o.dst (.slice (some ⟨k',0,none⟩) n.toNat cap)) W'):o.wp P a W K Q:=by
 cases hie:P.info? e with
 | none=>simp [aM,hie]at hsz
 | some i =>
  have hz':i.zero=some z:=by simpa [zeroOf,hie]using hz
  have hs':i.size=size:=by simpa [aM,hie]using hsz
  have hb':i.bytes=by':=by simpa [bytesOf,hie]using hb
  subst hs'
  subst hb'
  obtain⟨m,rfl⟩:∃ m:Nat,n=(m:Int):=⟨n.toNat,by omega⟩
  have hm0:0<m:=by omega
  have hw64:IntKind.i64.wrap (m:Int)=(m:Int):=by
   simp [IntKind.wrap,IntKind.bits,IntKind.signed]<;>omega
  have hbn:((m*i.bytes:Nat):Int)≤140737488355328:=by rw [Int.natCast_mul];exact hby
  have hms:m*i.size≠0∨i.size=0:=by
   rcases Nat.eq_zero_or_pos i.size with h|h
   ·exact .inr h
   exact .inl (Nat.ne_of_gt (Nat.mul_pos hm0 h))
  have hrun:(Builtin.append_ #[t,t'] o.type #[.slice none 0 0,.int k (m:Int)]).run P W=.ok (.slice (some ⟨W.heap.size,0,none⟩) m (grownCap W m 0 e)) (W.drew.alloc (.cells ((madeCells z.cells (m*i.size))++Builtin.zeroCells z.cells (grownCap W m 0 e-m)) e)):=by
   have h1:¬ ((m:Int)<0):=by omega
   have h2:¬ (281474976710656<(m:Int)*(i.bytes:Int)):=by rw [← Int.natCast_mul];omega
   have h3:¬ (9223372036854775807<(m:Int)):=by omega
   have h4:¬ (281474976710656<Builtin.nextslicecap m 0*i.bytes):=by rw [nextslicecap_zero hm0];omega
   have hn0:m≠0:=by omega
   have hmz:m*i.size≠0∨(m*i.size=0∧madeCells z.cells (m*i.size)=#[]):=by
    rcases Nat.eq_zero_or_pos (m*i.size)with h|h
    ·exact .inr ⟨h,by rw [h];simp [madeCells]⟩
    exact .inl (Nat.ne_of_gt h)
   have hzc:Builtin.zeroCells z.cells m=madeCells z.cells (m*i.size):=by simp [Builtin.zeroCells,madeCells,hzs]
   rcases hmz with hmz|⟨hmz,hme⟩
   ·simp [Builtin.append_,run_underlying hu,run_underlying hk,sizeOf,typeInfo,zeroValue,hie,hz',Builtin.lenOf,asInt,asIntOf,hw64,hn0,h1,h2,h3,h4,hmz,Question.forced,run_firstCells_none,newRow,grownCap,hzc]
   simp [Builtin.append_,run_underlying hu,run_underlying hk,sizeOf,typeInfo,zeroValue,hie,hz',Builtin.lenOf,asInt,asIntOf,hw64,hn0,h1,h2,h3,h4,hmz,show madeCells z.cells 0=#[] by simp [madeCells],Question.forced,run_firstCells_none,newRow,grownCap,hzc]
  unfold Oper.wp execOp
  simp only [ho,resolve,invoke,builtin,Sem.run_bind,Sem.run_pure,Result.andThen_ok,List.map_toArray,List.map_cons,List.map_nil,hx,hy,hrun]
  have hcap:=grownCap_ge W m 0 e
  have hZ:=hS.drew.new (madeCells z.cells (m*i.size)++Builtin.zeroCells z.cells (grownCap W m 0 e-m)) e
  refine h _ _ (Builtin.zeroCells z.cells (grownCap W m 0 e-m)).toList _ ?_ ?_ hcap (grownCap_le_maxLen W m 0 e (by unfold maxLen;omega))
  ·have e1:((madeCells z.cells (((m:Int)).toNat*i.size)).toList++(Builtin.zeroCells z.cells (grownCap W m 0 e-m)).toList).toArray=madeCells z.cells (m*i.size)++Builtin.zeroCells z.cells (grownCap W m 0 e-m):=by
    apply Array.ext';simp
   rw [e1]
   exact hZ
  simp only [List.length_append,Array.length_toList,madeCells,Builtin.zeroCells,Array.size_map,Array.size_range,hzs,Int.toNat_natCast]
  rw [← Nat.add_mul,Nat.add_sub_cancel' hcap]
theorem HQ{k:Nat}{c:Array Value}{t:TypeId}{hs hs':List Ch}(h:lD k c t c hs hs'):hs'=hs:=by
 induction h with
 | here=>rfl
 | there _ ih=>rw [ih]
theorem AR{P:Program}{t t' e:TypeId}{xo yo:Operand}{A B:Option Addr}{l1 c1 l2 c2:Nat}(hop:o.op=.call { callee:=.builtin .copy,args:=#[xo,yo],argTypes:=#[t,t'] }) (hx:a.eval xo=.slice A l1 c1) (hy:a.eval yo=.slice B l2 c2)
 (hu:P.underlying t=some (.slice e)) (hs1:aM P e=some 1) (hn:Nat.min l2 l1=0) (h:K (a.put o.dst (.int .i64 0)) W):o.wp P a W K Q:=by
 have hrun:=run_copy_none (P:=P) W t t' o.type e A B l1 c1 l2 c2 hu hs1 hn
 unfold Oper.wp execOp
 simp only [hop,resolve,invoke,builtin,Sem.run_bind,Sem.run_pure,Result.andThen_ok,List.map_toArray,List.map_cons,List.map_nil,hx,hy,hrun,goInt]
 exact h
theorem nA{P:Program}{K:Act→World→Prop}{Q:Exit→Act→World→Prop}{a:Act}{o:Oper}{W:World}{f:Operand}{args:Array Operand}{ats:Array TypeId}{g:FuncId}{vs fs cap:Array Value}(ho:o.op=.call { callee:=.value f,args,argTypes:=ats }) (hf:a.eval f=.func (.func g) fs cap) (hargs:fs++args.map a.eval++cap=vs)
 (hc:(callFunc g vs).run P W=.ok (.enter g vs) W) {R:Value→World→Prop} (h:Calls P g vs W fun e W'=>∃ v,e=.returned v∧R v W') (hk:∀ v W',R v W'→K (a.put o.dst v) W'):o.wp P a W K Q:=by
 subst hargs
 unfold Oper.wp execOp
 simp only [ho,resolve,Deferred.ofValue,hf,invoke,Sem.run_bind,Sem.run_pure,Result.andThen_ok,hc,Oper.upon]
 refine h.mono fun e W' ⟨v,he,hR⟩=>?_
 subst he
 exact hk v W' hR
theorem Fc{sh0:List Sh}{xo yo:Operand}{t t' e:TypeId}{n oo l cc k cap:Nat}{A:Option Addr}{B:ae}{cells:List Value}{v:Value}(hop:o.op=.call { callee:=.builtin .copy,args:=#[xo,yo],argTypes:=#[t,t'] }) (hp:a.eval xo=.slice (some ⟨(α n).b,oo,none⟩) l cc) (hq:a.eval yo=.slice A k cap) (hsl:dG C.P t=some e) (hsz:aM C.P e=some 1)
 (hbn:s.hp[n]?=some (some B)) (hbk:B.k=.cells) (hlen:oo+l≤B.c.length) (hI:ay w0 ps T ρ s a W α) (hvd:ρ.getD sh0.length undef=v) (hRd:Rd W 1 A k cells) (hone:∀ u∈cells,u.oneCell'=true)
 (hv:v=.tuple #[.int .i64 ((Nat.min k l:Nat):Int),.agg (cells.take l++(((ab ρ α B.c).drop oo).take l).drop (Nat.min k l)).toArray])
 (hw:aP s nm (bh sh0.length (.tp [.one,.ag l]) (some (V.x sh0.length [0]))) none (some (n,⟨b8 B.c oo ((List.range l).map fun j=>V.x sh0.length [1,j]),B.t,B.k⟩))=true) (hK:∀ a' W',Inv w0 ps T ρ (s.cX nm o.dst (bh sh0.length (.tp [.one,.ag l]) (some (V.x sh0.length [0]))) none (some (n,⟨b8 B.c oo ((List.range l).map fun j=>V.x sh0.length [1,j]),B.t,B.k⟩))) a' W'→K a' W'):o.wp C.P a W K Q:=by
 have hkl:cells.length=k:=by simpa using hRd.1
 have hvD:ρ.getD sh0.length undef=.tuple #[.int .i64 ((Nat.min k l:Nat):Int),.agg (cells.take l++(((ab ρ α B.c).drop oo).take l).drop (Nat.min k l)).toArray]:=by rw [hvd,hv]
 have hmin:Nat.min k l=min k l:=rfl
 have hct:cells.take l=cells.take (min k l):=by
  rcases Nat.le_total k l with hle|hle
  ·rw [Nat.min_eq_left hle,List.take_of_length_le (by omega),List.take_of_length_le (by omega)]
  rw [Nat.min_eq_right hle]
 have hdl:(cells.take (min k l)).length=min k l:=by rw [List.length_take];omega
 have hBl:(ab ρ α B.c).length=B.c.length:=aj ..
 have hxs:=vL (ρ:=ρ) (α:=α) (u:=undef) (path:=[1]) (m:=sh0.length) (N:=l) (cs:=cells.take l++(((ab ρ α B.c).drop oo).take l).drop (min k l)) (by rw [hvD];rfl) (by
  rw [hct,List.length_append,hdl,List.length_drop,List.length_take,List.length_drop];omega)
 simp only [List.cons_append,List.nil_append]at hxs
 have hms:=qi (D:=ab ρ α B.c) (vs:=cells.take (min k l)) (o:=oo) (q:=0) (k:=min k l) (L:=l) (by omega) (by omega) hdl
 simp only [List.take_zero,List.nil_append,Nat.add_zero,Nat.zero_add]at hms
 have hnew:ab ρ α (b8 B.c oo ((List.range l).map fun j=>V.x sh0.length [1,j]))=(ab ρ α B.c).take oo++cells.take (min k l)++(ab ρ α B.c).drop (oo+min k l):=by
  unfold b8
  rw [dB,dB,hxs,hct]
  simp only [List.length_map,List.length_range]
  rw [show ab ρ α (B.c.take oo)=(ab ρ α B.c).take oo by simp [aw,List.map_take],show ab ρ α (B.c.drop (oo+l))=(ab ρ α B.c).drop (oo+l) by simp [aw,List.map_drop],← hms]
 have hup:lD (α n).b (ab ρ α B.c).toArray B.t ((ab ρ α B.c).take oo++cells.take (min k l)++(ab ρ α B.c).drop (oo+min k l)).toArray (aN ρ α 0 s.hp) (aN ρ α 0 (s.hp.set n (some ⟨b8 B.c oo ((List.range l).map fun j=>V.x sh0.length [1,j]),B.t,B.k⟩))):=by
  refine gu (k:=0) hbn (by simp only [ae.ch,hbk,Nat.zero_add]) ?_
  simp only [ae.ch,hbk,Nat.zero_add,hnew]
 have hrow:(⟨b8 B.c oo ((List.range l).map fun j=>V.x sh0.length [1,j]),B.t,B.k⟩:ae).bo ρ α n:=by simp [ae.bo,hbk]
 have hown:(⟨b8 B.c oo ((List.range l).map fun j=>V.x sh0.length [1,j]),B.t,B.k⟩:ae).own=true:=by simp [ae.own,hbk]
 have hres:(bh sh0.length (.tp [.one,.ag l]) (some (V.x sh0.length [0]))).den ρ α=.int .i64 ((min k l:Nat):Int):=by
  simp only [bh,Option.getD_some,V.den,hvD,List.foldl_cons,List.foldl_nil]
  rfl
 rcases Nat.eq_zero_or_pos (min k l)with h0|h0
 ·refine AR hop hp hq (aO hsl) hsz h0 ?_
  refine gd hI hbn hrow hown hw hK (hS:=?_) (by rw [hres,h0];rfl)
  have:((ab ρ α B.c).take oo++cells.take (min k l)++(ab ρ α B.c).drop (oo+min k l))=ab ρ α B.c:=by rw [h0];simp
  rw [this]at hup
  rw [HQ hup]
  exact hI.st
 obtain⟨ad,rfl,hlt,hcl⟩:=hRd.2 (by omega)
 refine rT (cs:=cells.take (min k l)) hop hp hq (aO hsl) hsz hI.st (by simpa only [hdl]using hup) hdl (fun j u hu=>?_) (by rw [hdl];simp;omega) (fun u hu=>hone u (List.mem_of_mem_take hu)) fun W' hS=>?_
 ·rw [List.getElem?_take]at hu
  split at hu
  ·exact hcl j u hu
  cases hu
 rw [hdl]
 exact gd hI hbn hrow hown hw hK hS (by rw [hres])
theorem vh{P:Program}{src dst:TypeId}{x:Operand}{A:Option Addr}{n c:Nat}{l:List UInt8}(hop:o.op=.convert src dst x)(hx:a.eval x=.slice A n c)(hr:Rd W 1 A n (l.map fun b=>Value.int .u8 (b.toNat:Int)))(hb:FL P src dst=true):(execOp a.eval o).run P W=.ok (.value (.string ⟨l.toArray⟩)) W:=by
 unfold FL at hb
 split at hb
 case h_2=>cases hb
 rename_i e hsl hd
 split at hb
 case h_2=>cases hb
 rename_i heu
 have hl:l.length=n:=by have:=hr.1;simpa using this
 have hrun:(convert src dst (.slice A n c)).run P W=.ok (.string ⟨l.toArray⟩) W:=by
  cases A with
  | none =>
   have h0:n=0:=by
    rcases Nat.eq_zero_or_pos n with h|h
    ·exact h
    obtain⟨ad,e1,_⟩:=hr.2 h;cases e1
   subst h0
   obtain rfl:l=[]:=List.eq_nil_of_length_eq_zero hl
   rw [run_convert_bytes_string W src dst e none 0 c (aO hsl) heu hd]
   rfl
  | some ad =>
   subst hl
   rcases Nat.eq_zero_or_pos l.length with h|h
   ·obtain rfl:l=[]:=List.eq_nil_of_length_eq_zero h
    exact run_convert_bytes_back W src dst e ad c [] (aO hsl) heu hd (fun j hj=>absurd hj (by simp))
   obtain⟨ad',e1,_,hc⟩:=hr.2 h
   cases e1
   exact run_convert_bytes_back W src dst e ad c l (aO hsl) heu hd (fun j hj=>hc j _ (by simp [hj]))
 simp [execOp,hop,hx,hrun,Result.andThen]
theorem qP(hI:ay w0 ps T ρ s a W α){vv:List V}:∀ {ts:List TypeId}{vs:List V}{rw:List Rw}{as':List Arg},dK C.P (cA s.hp vv) ts vs=some rw→bK C ρ α rw vs as'→∀ p∈rw.zip as',p.1.FM=true→yA W p.2
 | [],[],rw,as',h,ha=>by
  obtain rfl:[]=rw:=by simpa [dK]using h
  intro p hp
  simp at hp
 | [],_::_,rw,as',h,ha=>by simp [dK]at h
 | _::_,[],rw,as',h,ha=>by simp [dK]at h
 | t::ts,v::vs,rw,as',h,ha=>by
  unfold dK at h
  simp only [Option.bind_eq_some_iff,Option.map_eq_some_iff]at h
  obtain⟨r,hr,rw',hrw,rfl⟩:=h
  cases as' with
  | nil=>intro p hp;simp at hp
  | cons x xs =>
   have rest:bK C ρ α rw' vs xs:=by
    cases r<;>simp only [bK]at ha
    ·exact ha.2.2
    ·exact ha.2
    ·exact ha.2.2.2
    exact ha.2
   intro p hp ho
   rw [List.zip_cons_cons]at hp
   rcases List.mem_cons.1 hp with rfl|hp
   ·split at hr
    ·rename_i n oo l cc e he
     split at hr
     ·rename_i sz b hsz hb
      split at hr
      ·obtain rfl:Rw.own sz ((b.c.drop oo).take (l*sz))=r:=by simpa using hr
       obtain⟨rfl,_⟩:=ha
       intro ad n' c' e'
       simp only [V.den,Value.slice.injEq,Option.some.injEq]at e'
       obtain⟨rfl,rfl,rfl⟩:=e'
       exact⟨_,_,hI.OQ (fY hb).1 (fY hb).2⟩
      cases hr
     cases hr
    ·rename_i cc e he
     split at hr
     ·rename_i sz hsz
      obtain rfl:Rw.own sz []=r:=by simpa using hr
      obtain⟨rfl,_⟩:=ha
      intro ad n' c' e'
      simp [V.den]at e'
     cases hr
    ·split at hr
     ·obtain rfl:=Option.some.inj hr
      cases ho
     cases hr
    ·obtain⟨q,_,rfl⟩:=Option.map_eq_some_iff.1 hr
     cases ho
    ·cases hr
    ·cases hr
    ·cases hr
    obtain rfl:=Option.some.inj hr
    cases ho
   exact qP hI hrw rest p hp ho
theorem MQ{sh0:List Sh}{f:Operand}{ar:Array Operand}{ats:Array TypeId}{g:FuncId}{args' vv0:List V}{q:cO}{args:List V}{sh:Sh}{mk:Option V}{new:Option ae}{wr:Option (Nat×ae)}{v:Value}(hop:o.op=.call { callee:=.value f,args:=ar,argTypes:=ats }) (h7:a.eval f=.func (.func g) #[] #[]) (h8:ar.toList.map a.eval=ab ρ α args')
 (h:qB C (cA s.hp vv0) nm sh0.length g ats.toList args'=.df q args sh mk new wr) (hps:ll C w0 ps) (hI:ay w0 ps T ρ s a W α) (hv:ρ[sh0.length]?=some v) (hrel:q.rel C ρ α args v)
 (hnm:new=none∨aW s nm) (hw:aP s nm (bh sh0.length sh mk) new wr=true) (hK:∀ a' W',Inv w0 ps T ρ (s.cX nm o.dst (bh sh0.length sh mk) new wr) a' W'→K a' W'):o.wp C.P a W K Q:=by
 have hKf:Kf C W:=hI.fact hps.1
 have hvD:ρ.getD sh0.length undef=v:=by rw [List.getD_eq_getElem?_getD,hv];rfl
 unfold qB at h
 split at h
 ·-- a row is taken
  rename_i hrc hen
  split at h
  case h_2=>cases h
  rename_i n r t ts' hts
  split at h
  case h_2=>cases h
  rename_i c e sz e' rw' hrow hsl hrw
  split at h
  case isFalse=>cases h
  rename_i hc
  obtain⟨rfl,h0,hdis⟩:=hc
  injection h with h1 h2 h3 h4 h5 h6
  subst h1;subst h2;subst h3;subst h4;subst h5;subst h6
  have hnm':aW s nm:=hnm.resolve_left nofun
  obtain⟨as',ha,hP⟩:=(hrel:∃ as',bK C ρ α rw' r as'∧mj C g rw' as' (aa ((V.cat c).den ρ α)) sz e v)
  have hcat:aa ((V.cat c).den ρ α)=(ab ρ α c).flatMap aa:=by simp [V.den,aa]
  rw [hcat]at hP
  have hn:=fK hrow
  have hne:n≠nm:=sW (xm hn) hnm'.1
  have hset:(s.hp.set nm (some ⟨[.x sh0.length []],e,.row sz⟩)).set n (some bA)=(s.hp.set n (some bA)).set nm (some ⟨[.x sh0.length []],e,.row sz⟩):=List.set_comm _ _ (fun h=>hne h.symm)
  have hnm2:(s.hp.set n (some bA))[nm]?=some none:=by rw [List.getElem?_set_ne hne];exact hnm'.1
  have hxs:∀ α',(⟨[.x sh0.length []],e,.row sz⟩:ae).xs ρ α'=aa v:=fun α'=>by
   simp [ae.xs,ab,V.den,List.getD_eq_getElem?_getD,hv]
  obtain⟨_,hinfo⟩:=dV hI hn
  obtain⟨h5,h6⟩:=ft hI hKf hrw ha
  have hRow:im sz (α n).h (α n).b e ((ab ρ α c).flatMap aa) (α n).tl W:=by
   rcases hinfo with ⟨h1,h2⟩|⟨len,cap,h1,h2,h3,h4,h5,h6⟩
   ·exact .inl ⟨h2,h1⟩
   exact .inr ⟨len,cap,h1,h2,h3,h4,h5,hI.st.at_ h6⟩
  have hbm:∀ b0∈gS (α n).h,∃ (m:Nat) (B:ae) (e:Ch),s.hp[m]?=some (some B)∧B.ch ρ α m=some e∧b0=e.id∧m∈[n]:=fun b0 hb0=>by
   rcases hinfo with ⟨h1,h2⟩|⟨len,cap,h1,h2,h3,h4,h5,h6⟩
   ·rw [h2]at hb0;simp [gS]at hb0
   rw [h1]at hb0
   obtain rfl:=List.mem_singleton.1 hb0
   exact⟨n,_,⟨(α n).b,((ab ρ α c).flatMap aa++(α n).tl).toArray,e⟩,hn,by simp only [ae.ch,h1];rfl,rfl,List.mem_cons_self ..⟩
  have hsub:∀ b0∈gS (α n).h,b0∈aX (aN ρ α 0 s.hp) (dp a s T):=fun b0 hb0=>by
   obtain⟨m,B,e,h1,h2,rfl,_⟩:=hbm b0 hb0
   exact List.mem_append.2 (.inl (List.mem_map.2 ⟨_,cU (k:=0) h1 (by rw [Nat.zero_add];exact h2),rfl⟩))
  have hup:∀ {W2:World},bc (gS (α n).h) W W2→bc (aX (aN ρ α 0 s.hp) (dp a s T)) W W2:=fun h=>⟨h.size,fun b0 hb0 hn=>h.block b0 hb0 fun hm=>hn (hsub b0 hm)⟩
  have hcall:=hP W (α n).h (α n).b (α n).tl hRow (fun x hx W2 hW2=>m9 hI hps hbm hrw ha (fun m hm hc=>by
   have:=List.all_eq_true.1 hdis m hm
   simp only [Bool.not_eq_true',List.contains_eq_mem,decide_eq_false_iff_not]at this
   exact this hc) W2 hW2 x hx) (fun u z cells hk W2 hW2=>hI.st.pers _ (List.mem_append.2 (.inr hps.1)) W2 (hup hW2) _ _ _ hk) (qP hI hrw ha)
  refine nA hop h7 (vs:=((α n).h::as'.map Arg.v).toArray) ?_ (cR hen _ _) (R:=fun u W'=>∃ b' tl',W'.os=W.os∧W'.tape=W.tape∧W'.output=W.output∧bc (gS (α n).h) W W'∧im sz u b' e (aa v) tl' W'∧(b'∈gS (α n).h∨W.heap.size≤b')) (hcall.mono fun e W' ⟨h',b',tl',h1,h2⟩=>⟨h',h1,b',tl',h2⟩) ?_
  ·rw [h5]
   exact Array.ext' (by simpa [ab,V.den]using h8)
  rintro u W' ⟨b',tl',hos,htp,hout,hsm,hR,hb'⟩
  refine iR hI hnm' hw hK ⟨b',u,tl'⟩ (fun α' h1 h2 h3 h5 h4=>?_) rfl (fun α' h1=>by simp only [bh,Option.getD_some,V.den,h1])
  rw [hset]
  have hfin:∀ {L:List Ch},aN ρ α' 0 (s.hp.set n (some bA))=L→(u=.slice none 0 0→St w0 L (dp a s T) (gD w0 ρ α 0 s.hp++ps) W')→(∀ c:Array Value,W'.heap[b']?=some (.cells c e (0,0))→St w0 (⟨b',c,e⟩::L) (dp a s T) (gD w0 ρ α 0 s.hp++ps) W')→St w0 (aN ρ α' 0 ((s.hp.set n (some bA)).set nm (some ⟨[.x sh0.length []],e,.row sz⟩))) (dp a s T) (gD w0 ρ α 0 s.hp++ps) W'∧(⟨[.x sh0.length []],e,.row sz⟩:ae).bo ρ α' nm:=fun {L} hL hno hyes=>by
   rcases hR with ⟨rfl,hcells⟩|⟨len,cap,rfl,hl1,hl2,hlc,hcm,hat⟩
   ·refine⟨?_,h0,.inl ⟨by rw [hxs,hcells],by rw [h1]⟩⟩
    rw [fS (k:=0) hnm2 (by simp only [ae.ch,Nat.zero_add,h1]),hL]
    exact hno rfl
   refine⟨St.perm ?_ (dg (k:=0) hnm2 (e:=⟨b',(aa v++tl').toArray,e⟩) (by simp only [ae.ch,Nat.zero_add,h1,hxs])),h0,.inr ⟨len,cap,by rw [h1],by rw [hxs];exact hl1,by rw [hxs,h1];exact hl2,hlc,hcm⟩⟩
   rw [hL]
   exact hyes _ hat
  rcases hinfo with ⟨hx0,hh⟩|⟨len,cap,hh,hl1,hl2,hlc,hcm,hmem⟩
  ·have hsame:aN ρ α' 0 (s.hp.set n (some bA))=aN ρ α 0 s.hp:=by
    obtain⟨l1,l2,q1,q2⟩:=cl (ρ:=ρ) (α:=α') (k:=0) hn
    rw [← h4,q1,q2]
    have:(⟨c,e,.row sz⟩:ae).ch ρ α' (0+n)=none:=by
     have e5:=h5 n _ hn
     rw [Nat.zero_add,e5]
     simp only [ae.ch,hh]
    simp only [Option.bind_some,this]
    simp [bA,ae.ch]
   rw [hh]at hsm hb'
   have hbel:Below W.heap.size W W':=⟨hos,htp,hout,hsm.size,fun b hb=>hsm.block b hb (by simp [gS])⟩
   exact hfin hsame (fun _=>hI.st.step hbel) fun c hc=>hI.st.made hbel hc (hb'.resolve_left (by simp [gS]))
  obtain⟨l1,l2,q1,q2⟩:=cl (ρ:=ρ) (α:=α) (k:=0) hn
  have hchn:(⟨c,e,.row sz⟩:ae).ch ρ α (0+n)=some ⟨(α n).b,((ab ρ α c).flatMap aa++(α n).tl).toArray,e⟩:=by
   simp only [ae.ch,Nat.zero_add,hh];rfl
  have hq1:aN ρ α 0 s.hp=l1++(⟨(α n).b,((ab ρ α c).flatMap aa++(α n).tl).toArray,e⟩::l2):=by
   rw [q1]
   simp only [Option.bind_some,hchn,Option.toList_some,List.cons_append,List.nil_append]
  have hrest:aN ρ α' 0 (s.hp.set n (some bA))=l1++l2:=by
   have e1:aN ρ α 0 (s.hp.set n (some bA))=l1++l2:=by
    rw [q2];simp [bA,ae.ch]
   rw [← e1]
   refine iM fun k b hb=>?_
   rcases bw hb with ⟨rfl,rfl⟩|⟨_,hb⟩
   ·simp [bA,ae.ch]
   simpa using h5 k b hb
  have hS0:=hI.st
  rw [hq1]at hS0
  have hS1:=hS0.perm List.perm_middle
  rw [hh]at hsm hb'
  exact hfin hrest (fun _=>hS1.Oa hos htp hout hsm) fun c hc=>hS1.OS hos htp hout hsm hc (hb'.imp (fun h=>List.mem_singleton.1 h) id)
 ·-- a new row
  rename_i hrc hen
  split at h
  case h_2=>cases h
  rename_i t ts' hts
  split at h
  case h_2=>cases h
  rename_i e rw' hsl hrw
  split at h
  case h_2=>cases h
  rename_i sz hsz
  split at h
  case isFalse=>cases h
  rename_i h0
  injection h with h1 h2 h3 h4 h5 h6
  subst h1;subst h2;subst h3;subst h4;subst h5;subst h6
  have hnm':aW s nm:=hnm.resolve_left nofun
  obtain⟨as',ha,hP⟩:=(hrel:∃ as',bK C ρ α rw' args' as'∧ES C g rw' as' sz e v)
  have hxs:∀ α',(⟨[.x sh0.length []],e,.row sz⟩:ae).xs ρ α'=aa v:=fun α'=>by
   simp [ae.xs,ab,V.den,List.getD_eq_getElem?_getD,hv]
  obtain⟨h5,h6⟩:=ft hI hKf hrw ha
  have hup:∀ {W2:World},bc [] W W2→bc (aX (aN ρ α 0 s.hp) (dp a s T)) W W2:=fun h=>⟨h.size,fun b0 hb0 hn=>h.block b0 hb0 (by simp)⟩
  have hcall:=hP W (fun x hx W2 hW2=>m9 (bs:=[]) (ns:=[]) hI hps (fun _ h=>nomatch h) hrw ha (fun m hm hc=>nomatch hc) W2 hW2 x hx) (fun u z cells hk W2 hW2=>hI.st.pers _ (List.mem_append.2 (.inr hps.1)) W2 (hup hW2) _ _ _ hk) (qP hI hrw ha)
  refine nA hop h7 (vs:=(as'.map Arg.v).toArray) ?_ (cR hen _ _) (R:=fun u W'=>∃ b' tl',Below W.heap.size W W'∧im sz u b' e (aa v) tl' W'∧W.heap.size≤b') (hcall.mono fun e W' ⟨h',b',tl',h1,h2⟩=>⟨h',h1,b',tl',h2⟩) ?_
  ·rw [h5]
   exact Array.ext' (by simpa using h8)
  rintro u W' ⟨b',tl',hbel,hR,hb'⟩
  refine gw hI hnm' rfl hw hK ⟨b',u,tl'⟩ (fun α' h1 h2 h3 h4=>?_) (fun α' h1=>by simp only [bh,Option.getD_some,V.den,h1])
  rcases hR with ⟨rfl,hcells⟩|⟨len,cap,rfl,hl1,hl2,hlc,hcm,hat⟩
  ·refine⟨?_,h0,.inl ⟨by rw [hxs,hcells],by rw [h1]⟩⟩
   rw [fS (k:=0) hnm'.1 (by simp only [ae.ch,Nat.zero_add,h1]),h4]
   exact hI.st.step hbel
  refine⟨St.perm ?_ (dg (k:=0) hnm'.1 (e:=⟨b',(aa v++tl').toArray,e⟩) (by simp only [ae.ch,Nat.zero_add,h1,hxs])),h0,.inr ⟨len,cap,by rw [h1],by rw [hxs];exact hl1,by rw [hxs,h1];exact hl2,hlc,hcm⟩⟩
  rw [h4]
  exact hI.st.made hbel hat hb'
 cases h
theorem MC{args:Array Operand}{f:Operand→Value}{x:Value}(h:args.map f=#[x]):∃ p,args=#[p]∧f p=x:=by
 have h1:args.size=1:=by have:=congrArg Array.size h;simpa using this
 refine⟨args[0],?_,?_⟩
 ·apply Array.ext
  ·simp [h1]
  intro i hi hi2
  have:i=0:=by omega
  subst this
  rfl
 ·have:=congrArg (fun a=>a[0]?) h;simpa [h1]using this
theorem zI{kt:TypeId}{k nx:Nat}{ag:Bool}{c:List Value}{x:Value}{l:List Qe}{P:Program}{cc:List Value}{i:Nat}{W:World}(hq:vT P kt k cc x nx l)(hc:c=bL nx l)(hat:W.heap[i]?=some (Ch.obj ⟨i,c.toArray,.map k ag⟩)):W.heap[i]?=some (.map (l.map (Qe.entry ag)).toArray nx):=by
 rw [hat,hc]
 exact congrArg some (kZ hq.len)
theorem all_push{k nx:Nat}{l:List Qe}{x:Value}{xs:List Value}(h:∀ e∈l,e.cs.length=k)(hx:xs.length=k):∀ e∈l++[(⟨x,xs,nx⟩:Qe)],e.cs.length=k:=by
 intro e he
 rcases List.mem_append.1 he with he|he
 ·exact h e he
 rw [List.mem_singleton.1 he];exact hx
theorem Ie{k nx j:Nat}{l:List Qe}{x:Value}{xs:List Value}(h:∀ e∈l,e.cs.length=k)(hx:xs.length=k):∀ e∈l.set j (⟨x,xs,nx⟩:Qe),e.cs.length=k:=by
 intro e he
 rcases List.mem_or_eq_of_mem_set he with he|he
 ·exact h e he
 rw [he];exact hx
theorem Fe{sh0:List Sh}{q:cO}{args:List V}{sh:Sh}{mk:Option V}{new:Option ae}{wr:Option (Nat×ae)}{vv:List V}{t:TypeId}{n:Nat}{i:V}{up:Bool}{xo io:Operand}{lo hi:Option Operand}(hop:o.op=.slice t xo lo hi none)(hsel:(up=true∧lo=some io∧hi=none)∨(up=false∧lo=none∧hi=some io))(hx:a.eval xo=(V.row n).den ρ α)(hio:a.eval io=i.den ρ α)(h:k7 C (cA s.hp vv) t n i up=.df q args sh mk new wr)(hI:ay w0 ps T ρ s a W α){v:Value}(hrel:q.rel C ρ α args v)
 (hw:aP s nm (bh sh0.length sh mk) new wr=true) (hK:∀ a' W',Inv w0 ps T ρ (s.cX nm o.dst (bh sh0.length sh mk) new wr) a' W'→K a' W'):o.wp C.P a W K Q:=by
 unfold k7 at h
 split at h
 case h_2=>cases h
 rename_i c e sz sz' hrow hsz
 split at h
 case isFalse=>cases h
 rename_i hs
 subst hs
 injection h with h1 h2 h3 h4 h5 h6
 subst h1;subst h2;subst h3;subst h4;subst h5;subst h6
 have hn:=fK hrow
 obtain⟨h0,hinfo⟩:=dV hI hn
 obtain⟨et,hb1,hb2⟩:=Option.bind_eq_some_iff.1 hsz
 obtain⟨k,hik,hkl⟩:=(hrel:∃ k:Nat,i.den ρ α=.int .i64 (k:Int)∧k*sz'≤(aa ((V.cat c).den ρ α)).length)
 have hcat:aa ((V.cat c).den ρ α)=(ab ρ α c).flatMap aa:=by simp [V.den,aa]
 rw [hcat]at hkl
 obtain⟨A,len,cap,hh,hkn,hnc⟩:∃ A len cap,(α n).h=.slice A len cap∧k≤len∧len≤cap:=by
  rcases hinfo with ⟨hx0,h⟩|⟨len,cap,h,hl,_,hlc,_⟩
  ·refine⟨_,_,_,h,?_,Nat.le_refl _⟩
   rw [hx0,List.length_nil]at hkl
   exact Nat.le_of_mul_le_mul_right (by omega) h0
  refine⟨_,_,_,h,?_,hlc⟩
  rw [hl]at hkl
  exact Nat.le_of_mul_le_mul_right hkl h0
 have hK2:=aq hI hw hK
 have hxh:a.eval xo=.slice A len cap:=hx.trans hh
 rcases hsel with ⟨rfl,rfl,rfl⟩|⟨rfl,rfl,rfl⟩
 ·have hrun:=gX (P:=C.P) (W:=W) (l1:=k) (h1:=len) (m1:=cap) hop hxh (aO hb1) hb2 rfl (by simp [iz,bU,ik,hio,hik,hkn])
  refine aZ hrun ?_
  simp only [bh,Option.getD_some,V.den,hh,hik,Ly,if_true,Int.toNat_natCast]at hK2
  exact hK2
 have hrun:=gX (P:=C.P) (W:=W) (l1:=0) (h1:=k) (m1:=cap) hop hxh (aO hb1) hb2 rfl (by simp [iz,bU,ik,hio,hik,show k≤cap by omega])
 refine aZ hrun ?_
 have e0:A.map (·.add (0*sz'))=A:=by
  cases A with
  | none=>rfl
  | some ad=>simp [Addr.add]
 rw [e0,ite_self,Nat.sub_zero,Nat.sub_zero]
 simp only [bh,Option.getD_some,V.den,hh,hik,Ly,Bool.false_eq_true,if_false,Int.toNat_natCast]at hK2
 exact hK2
theorem Ky{sh0:List Sh}{q:cO}{args:List V}{sh:Sh}{mk:Option V}{new:Option ae}{wr:Option (Nat×ae)}{vv:List V}{t:TypeId}{n sza szp:Nat}{i j:V}{p q':Operand}(hop:o.op=.call { callee:=.builtin .append,args:=#[p,q'],argTypes:=#[t,t] }) (hp:a.eval p=(V.pt (.row n) i false sza).den ρ α) (hq:a.eval q'=(V.pt (.row n) j true szp).den ρ α) (h:mV C (cA s.hp vv) nm sh0.length t n i j szp=.df q args sh mk new wr) (hI:ay w0 ps T ρ s a W α) {v:Value} (hv:ρ[sh0.length]?=some v) (hrel:q.rel C ρ α args v)
 (hnm:new=none∨aW s nm) (hw:aP s nm (bh sh0.length sh mk) new wr=true) (hK:∀ a' W',Inv w0 ps T ρ (s.cX nm o.dst (bh sh0.length sh mk) new wr) a' W'→K a' W'):o.wp C.P a W K Q:=by
 unfold mV at h
 split at h
 case h_2=>cases h
 rename_i c e sz e' hrow hsl
 split at h
 case isFalse=>cases h
 rename_i hs
 obtain⟨rfl,hsz,rfl⟩:=hs
 injection h with h1 h2 h3 h4 h5 h6
 subst h1;subst h2;subst h3;subst h4;subst h5;subst h6
 have hn:=fK hrow
 have hnm':aW s nm:=hnm.resolve_left nofun
 have hne:n≠nm:=sW (xm hn) hnm'.1
 obtain⟨h0,hinfo⟩:=dV hI hn
 obtain⟨k,hik,hjk,hkl,hone,rfl⟩:=(hrel:∃ k:Nat,i.den ρ α=.int .i64 (k:Int)∧j.den ρ α=.int .i64 ((k+1:Nat):Int)∧(k+1)*szp≤(aa ((V.cat c).den ρ α)).length∧(∀ u∈aa ((V.cat c).den ρ α),u.oneCell'=true)∧v=.agg ((aa ((V.cat c).den ρ α)).take (k*szp)++(aa ((V.cat c).den ρ α)).drop ((k+1)*szp)).toArray)
 have hcat:aa ((V.cat c).den ρ α)=(ab ρ α c).flatMap aa:=by simp [V.den,aa]
 rw [hcat]at hkl hone hv
 rcases hinfo with ⟨hx0,hh⟩|⟨len,cap,hh,hl1,hl2,hlc,hcm,hmem⟩
 ·rw [hx0,List.length_nil]at hkl
  have:0<(k+1)*szp:=Nat.mul_pos (by omega) h0
  omega
 generalize hxs:(ab ρ α c).flatMap aa=xs at *
 have hkn:k+1≤len:=by
  rw [hl1]at hkl
  exact Nat.le_of_mul_le_mul_right hkl h0
 have hset:(s.hp.set nm (some ⟨[.x sh0.length []],e',.row szp⟩)).set n (some bA)=(s.hp.set n (some bA)).set nm (some ⟨[.x sh0.length []],e',.row szp⟩):=List.set_comm _ _ (fun h=>hne h.symm)
 have hnm2:(s.hp.set n (some bA))[nm]?=some none:=by rw [List.getElem?_set_ne hne];exact hnm'.1
 obtain⟨l1,l2,q1,q2⟩:=cl (ρ:=ρ) (α:=α) (k:=0) hn
 have hchn:(⟨c,e',.row szp⟩:ae).ch ρ α (0+n)=some ⟨(α n).b,(xs++(α n).tl).toArray,e'⟩:=by
  simp only [ae.ch,Nat.zero_add,hh,ae.xs,hxs]
 have hq1:aN ρ α 0 s.hp=l1++(⟨(α n).b,(xs++(α n).tl).toArray,e'⟩::l2):=by
  rw [q1]
  simp only [Option.bind_some,hchn,Option.toList_some,List.cons_append,List.nil_append]
 have hrest:∀ α',(∀ (m:Nat) (c:ae),s.hp[m]?=some (some c)→c.ch ρ α' m=c.ch ρ α m)→aN ρ α' 0 s.hp=aN ρ α 0 s.hp→aN ρ α' 0 (s.hp.set n (some bA))=l1++l2:=by
  intro α' h5 h4
  have e1:aN ρ α 0 (s.hp.set n (some bA))=l1++l2:=by
   rw [q2];simp [bA,ae.ch]
  rw [← e1]
  refine iM fun k b hb=>?_
  rcases bw hb with ⟨rfl,rfl⟩|⟨_,hb⟩
  ·simp [bA,ae.ch]
  simpa using h5 k b hb
 have hS0:=hI.st
 rw [hq1]at hS0
 have hpv:a.eval p=.slice (some ⟨(α n).b,0,none⟩) k cap:=by
  rw [hp];simp only [V.den,hh,hik,Ly,Bool.false_eq_true,if_false,Int.toNat_natCast]
 have hqv:a.eval q'=.slice (if cap=k+1 then some ⟨(α n).b,0,none⟩else some ⟨(α n).b,(k+1)*szp,none⟩) (len-(k+1)) (cap-(k+1)):=by
  rw [hq];simp only [V.den,hh,hjk,Ly,if_true,Int.toNat_natCast,Option.map_some,Addr.add_lit,Nat.zero_add]
 have hnl:(xs.drop ((k+1)*szp)).length=(len-(k+1))*szp:=by
  rw [List.length_drop,hl1,Nat.sub_mul]
 have hSrc:Src C.P szp t (.slice (if cap=k+1 then some ⟨(α n).b,0,none⟩else some ⟨(α n).b,(k+1)*szp,none⟩) (len-(k+1)) (cap-(k+1))) (len-(k+1)) (xs.drop ((k+1)*szp)) W:=by
  by_cases hck:cap=k+1
  ·rw [if_pos hck]
   refine Src.ofSlice W (aO hsl) _ _ _ _ hnl (fun j u hu=>?_) fun u hu=>hone u (List.mem_of_mem_drop hu)
   have:(xs.drop ((k+1)*szp)).length=0:=by rw [hnl,show len-(k+1)=0 by omega,Nat.zero_mul]
   have:=(List.getElem?_eq_some_iff.1 hu).1
   omega
  rw [if_neg hck]
  refine Src.ofSlice W (aO hsl) _ _ _ _ hnl (fun j u hu=>?_) fun u hu=>hone u (List.mem_of_mem_drop hu)
  rw [List.getElem?_drop]at hu
  rw [Addr.add_lit]
  refine hS0.cell (List.mem_append_right _ (List.mem_cons_self ..)) ?_
  have hj:=(List.getElem?_eq_some_iff.1 hu).1
  rw [List.getElem?_toArray,List.getElem?_append_left hj]
  exact hu
 have hsz2:k*szp+(len-(k+1))*szp≤(xs++(α n).tl).toArray.size:=by
  rw [List.size_toArray,hl2,← Nat.add_mul]
  exact Nat.mul_le_mul_right _ (by omega)
 have hsp:cE (xs++(α n).tl).toArray (k*szp) (xs.drop ((k+1)*szp)).toArray=(xs.take (k*szp)++xs.drop ((k+1)*szp)++(xs++(α n).tl).drop (k*szp+(len-(k+1))*szp)).toArray:=by
  unfold cE
  have hkx:k*szp≤xs.length:=by
   rw [hl1];exact Nat.mul_le_mul_right _ (by omega)
  rw [List.toList_toArray,List.toList_toArray,List.size_toArray,hnl,List.take_append_of_le_length hkx]
 refine o5 hop hpv hqv hSrc (aO hsl) hsz (by omega) hS0 (pE l2 l1) hsz2 fun W' hS=>?_
 have hxs2:∀ α',(⟨[.x sh0.length []],e',.row szp⟩:ae).xs ρ α'=xs.take (k*szp)++xs.drop ((k+1)*szp):=fun α'=>by
  simp [ae.xs,ab,V.den,List.getD_eq_getElem?_getD,hv,aa]
 have hlx:(xs.take (k*szp)++xs.drop ((k+1)*szp)).length=(k+(len-(k+1)))*szp:=by
  rw [List.length_append,hnl,List.length_take,Nat.min_eq_left (by rw [hl1];exact Nat.mul_le_mul_right _ (by omega)),Nat.add_mul]
 refine iR hI hnm' hw hK ⟨(α n).b,.slice (some ⟨(α n).b,0,none⟩) (k+(len-(k+1))) cap,(xs++(α n).tl).drop (k*szp+(len-(k+1))*szp)⟩ (fun α' h1 h2 h3 h5 h4=>⟨?_,h0,.inr ⟨k+(len-(k+1)),cap,by rw [h1],?_,?_,by omega,hcm⟩⟩) rfl fun α' h1=>by simp only [bh,Option.getD_some,V.den,h1]
 ·rw [hset]
  refine St.perm ?_ (dg (k:=0) hnm2 (e:=⟨(α n).b,(xs.take (k*szp)++xs.drop ((k+1)*szp)++(xs++(α n).tl).drop (k*szp+(len-(k+1))*szp)).toArray,e'⟩) (by simp only [ae.ch,Nat.zero_add,h1,hxs2]))
  rw [hrest α' h5 h4,← hsp]
  exact hS.perm List.perm_middle
 ·rw [hxs2];exact hlx
 rw [hxs2,h1,List.length_append,hlx,List.length_drop,hl2,← Nat.add_mul]
 have:=Nat.mul_le_mul_right szp (show k+(len-(k+1))≤cap by omega)
 omega
theorem IA{sh0:List Sh}{q:cO}{args:List V}{sh:Sh}{mk:Option V}{new:Option ae}{wr:Option (Nat×ae)}{vs:List V}(hsh:sh0<+:s.sh)(hC:C.Ok)(hps:ll C w0 ps)(hvs:o.op.operands.toList.mapM s.ev=some vs)(h:kr C sh0 nm o.op vs (s.iA o.op vs)=.df q args sh mk new wr)(hI:ay w0 ps T ρ s a W α){v:Value}(hv:ρ[sh0.length]?=some v)(hrel:q.rel C ρ α args v)(hfit:sh.fit v=true)
 (hnm:new=none∨aW s nm) (hw:aP s nm (bh sh0.length sh mk) new wr=true) (hK:∀ a' W',Inv w0 ps T ρ (s.cX nm o.dst (bh sh0.length sh mk) new wr) a' W'→K a' W'):o.wp C.P a W K Q:=by
 have he:=cD hI.good hI.fm hvs
 have hKf:Kf C W:=hI.fact hps.1
 have hL:=xj hI o.op vs
 have hvD:ρ.getD sh0.length undef=v:=by rw [List.getD_eq_getElem?_getD,hv];rfl
 have hu:mk=none→v=(bh sh0.length sh mk).den ρ α:=fun e=>by
  subst e
  exact(iv ρ α _ sh [] v (by simpa using hvD) hfit).symm
 have hsee:bM o.op=false→∃ vv,s.iA o.op vs=cA s.hp vv:=fun hs=>⟨fz s.hp o.op vs,by simp [S.iA,dL,hs]⟩
 generalize hop:o.op=op at *
 unfold kr at h
 split at h
 ·-- a package variable
  rename_i t x ad
  simp [Op.operands,ab,V.den]at he
  split at h
  ·rename_i b n hr hs
   obtain⟨vv,hbv⟩:=hsee rfl
   rw [hbv]at h
   obtain⟨rfl,rfl⟩:=s8 h
   obtain⟨rfl,ad',len,cap,kk,j,hs',hi',hb⟩:=Bt hI hKf h hrel
   simp only [V.den,Value.slice.injEq,Option.some.injEq,Value.int.injEq]at hs' hi'
   obtain⟨rfl,rfl,rfl⟩:=hs'
   obtain⟨rfl,rfl⟩:=hi'
   have hz:∀ (x:Addr),x.add ((0:Int).toNat*n+0)=x:=fun x=>by simp [Addr.add]
   rw [hz]at hb
   have hK':=aq hI hw hK
   rw [← hu rfl]at hK'
   rcases hb with ⟨rfl,hcell⟩|⟨rfl,cs,rfl,hsz,hcells⟩
   ·exact ck hop he hr hcell hK'
   exact dX hop he hr hcells (by rw [hs,hsz]) hK'
  cases h
 ·-- load of an own array's part
  rename_i t x n oo l cc i sz o'
  simp [Op.operands,ab,V.den]at he
  split at h
  ·rename_i b k B hr hs hB
   obtain⟨vv,hbv⟩:=hsee rfl
   rw [hbv]at hB
   obtain⟨hbn,hbk⟩:=c7 hB
   have hat:=hI.st.at_ (hI.dt hbn hbk)
   split at h
   ·rename_i hc
    obtain⟨hc1,hc2⟩:=hc
    have hplen:((B.c.drop oo).take (l*sz)).length=l*sz:=by simp;omega
    have hcat:aa ((V.cat [.a ((B.c.drop oo).take (l*sz))]).den ρ α)=((ab ρ α B.c).drop oo).take (l*sz):=by
     simp [V.den,ab,aa,aw,List.map_take,List.map_drop]
    have hrd:Rd W sz (some ⟨(α n).b,oo,none⟩) l (((ab ρ α B.c).drop oo).take (l*sz)):=Rd.jD hat rfl (by simp [aj];omega)
    have hDl:(((ab ρ α B.c).drop oo).take (l*sz)).length=l*sz:=by simp [aj];omega
    split at h
    ·rename_i hb
     subst hb
     injection h with h1 h2 h3 h4 h5 h6
     subst h1;subst h2;subst h3;subst h4;subst h5;subst h6
     have hr2:iI (aa ((V.cat [.a ((B.c.drop oo).take (l*sz))]).den ρ α)).length sz (i.den ρ α)∧idxOf (i.den ρ α)*sz+o'+k≤(aa ((V.cat [.a ((B.c.drop oo).take (l*sz))]).den ρ α)).length∧v=.agg ((aa ((V.cat [.a ((B.c.drop oo).take (l*sz))]).den ρ α)).drop (idxOf (i.den ρ α)*sz+o') |>.take k).toArray:=hrel
     rw [hcat]at hr2
     obtain⟨hbd,hlt,hvv⟩:=hr2
     obtain⟨kk,j,hi',hj0,hj1⟩:=mY hbd
     rw [hi']at he hlt hvv
     simp only [yz,idxOf]at he hlt hvv
     have hK':=aq hI hw hK
     rw [← hu rfl,hvv]at hK'
     exact dX hop he hr (Rd.mo hrd hlt) (by rw [hs];simp only [List.size_toArray,List.length_take,List.length_drop];congr 1;simp only [List.length_take,List.length_drop]at hlt;omega) hK'
    rename_i hb
    injection h with h1 h2 h3 h4 h5 h6
    subst h1;subst h2;subst h3;subst h4;subst h5;subst h6
    have hr2:iI (aa ((V.cat [.a ((B.c.drop oo).take (l*sz))]).den ρ α)).length sz (i.den ρ α)∧(aa ((V.cat [.a ((B.c.drop oo).take (l*sz))]).den ρ α))[idxOf (i.den ρ α)*sz+o']?=some v:=hrel
    rw [hcat]at hr2
    obtain⟨hbd,hcell⟩:=hr2
    obtain⟨kk,j,hi',hj0,hj1⟩:=mY hbd
    rw [hi']at he hcell
    simp only [yz,idxOf]at he hcell
    have hK':=aq hI hw hK
    rw [← hu rfl]at hK'
    obtain⟨ad',e',hcl⟩:=Rd.in hrd (List.getElem?_eq_some_iff.1 hcell).1
    cases e'
    exact ck hop he (by simpa using (show rowOf C.P t=some false by rw [hr];simp at hb;rw [hb])) (hcl _ _ hcell) hK'
   cases h
  cases h
 ·-- store into an own array
  rename_i t x y n oo l cc i sz o' vv
  simp [Op.operands,ab,V.den]at he
  obtain⟨he1,he2⟩:=he
  split at h
  ·rename_i B k hB hs
   obtain⟨vv0,hbv⟩:=hsee rfl
   rw [hbv]at hB
   obtain⟨hbn,hbk⟩:=c7 hB
   split at h
   ·rename_i hc
    obtain⟨hc1,hc2,hc3,hc4,hc5⟩:=hc
    injection h with h1 h2 h3 h4 h5 h6
    subst h1;subst h2;subst h3;subst h4;subst h5;subst h6
    have hcat:aa ((V.cat [.a ((B.c.drop oo).take (l*sz))]).den ρ α)=((ab ρ α B.c).drop oo).take (l*sz):=by
     simp [V.den,ab,aa,aw,List.map_take,List.map_drop]
    have hDl:(((ab ρ α B.c).drop oo).take (l*sz)).length=l*sz:=by simp [aj];omega
    have hr2:iI (aa ((V.cat [.a ((B.c.drop oo).take (l*sz))]).den ρ α)).length sz (i.den ρ α)∧o'+vv.cells.length≤sz∧v=.agg ((aa ((V.cat [.a ((B.c.drop oo).take (l*sz))]).den ρ α)).take (idxOf (i.den ρ α)*sz+o')++ab ρ α vv.cells++(aa ((V.cat [.a ((B.c.drop oo).take (l*sz))]).den ρ α)).drop (idxOf (i.den ρ α)*sz+o'+vv.cells.length)).toArray:=hrel
    rw [hcat]at hr2
    obtain⟨hbd,hlt,hvv⟩:=hr2
    obtain⟨kk,j,hi',hj0,hj1⟩:=mY hbd
    rw [hi']at he1 hvv
    simp only [yz,idxOf,cz]at he1 hvv
    rw [hDl,Nat.mul_div_cancel _ hc2]at hj1
    have hjm:(j.toNat+1)*sz≤l*sz:=Nat.mul_le_mul_right _ (by omega)
    rw [Nat.add_mul]at hjm
    have hql:j.toNat*sz+o'+vv.cells.length≤l*sz:=by omega
    have hxs:=vL (ρ:=ρ) (α:=α) (u:=undef) (path:=[]) (m:=sh0.length) (N:=l*sz) (cs:=(((ab ρ α B.c).drop oo).take (l*sz)).take (j.toNat*sz+o')++ab ρ α vv.cells++(((ab ρ α B.c).drop oo).take (l*sz)).drop (j.toNat*sz+o'+vv.cells.length)) (by rw [List.foldl_nil,hvD,hvv]) (by simp only [List.length_append,List.length_take,List.length_drop,aj];omega)
    simp only [List.nil_append]at hxs
    have hup:lD (α n).b (ab ρ α B.c).toArray B.t (cE (ab ρ α B.c).toArray (oo+(j.toNat*sz+o')) (ab ρ α vv.cells).toArray) (aN ρ α 0 s.hp) (aN ρ α 0 (s.hp.set n (some ⟨b8 B.c oo ((List.range (l*sz)).map fun j=>V.x sh0.length [j]),B.t,B.k⟩))):=by
     refine gu (k:=0) hbn (by simp only [ae.ch,hbk,Nat.zero_add]) ?_
     simp only [ae.ch,hbk,Nat.zero_add]
     congr 2
     unfold b8 cE
     rw [dB,dB,hxs]
     have hms:=qi (D:=ab ρ α B.c) (vs:=ab ρ α vv.cells) (o:=oo) (q:=j.toNat*sz+o') (k:=vv.cells.length) (L:=l*sz) hql (by simp [aj];omega) (aj ..)
     simp only [List.length_map,List.length_range]
     rw [show ab ρ α (B.c.take oo)=(ab ρ α B.c).take oo by simp [aw,List.map_take],show ab ρ α (B.c.drop (oo+l*sz))=(ab ρ α B.c).drop (oo+l*sz) by simp [aw,List.map_drop],hms]
     simp [aj,Nat.add_assoc]
    have hrow:(⟨b8 B.c oo ((List.range (l*sz)).map fun j=>V.x sh0.length [j]),B.t,B.k⟩:ae).bo ρ α n:=by simp [ae.bo,hbk]
    have hown:(⟨b8 B.c oo ((List.range (l*sz)).map fun j=>V.x sh0.length [j]),B.t,B.k⟩:ae).own=true:=by simp [ae.own,hbk]
    have hones:(ab ρ α vv.cells).toArray.all (·.oneCell')=true:=pw hI.good hsh α hc5
    cases hA:vv.sR
    ·have hcs:vv.cells=[vv]:=by cases vv<;>first|rfl|simp [V.sR]at hA
     rw [hcs]at hup hones hql hc3
     simp at hc3
     subst hc3
     have h1c:(vv.den ρ α).oneCell'=true:=by simpa [ab]using hones
     refine jQ hop he1 he2 hI.st hup ?_ hs (by simp [aj]at hql ⊢;omega) h1c fun W' hS=>gd hI hbn hrow hown hw hK hS rfl
     rw [kF (by simp [aj]at hql ⊢;omega)]
     rfl
    obtain⟨cs,rfl⟩:∃ cs,vv=.a cs:=by cases vv<;>simp [V.sR]at hA;exact⟨_,rfl⟩
    simp only [V.cells]at *
    refine jR hop he1 he2 hI.st hup ?_ ?_ hones fun W' hS=>gd hI hbn hrow hown hw hK hS rfl
    ·rw [hs];simp [aj,hc3]
    simp [aj]at hql ⊢;omega
   cases h
  cases h
 ·-- an element's address in a package variable
  rename_i t x y ad i
  simp [Op.operands,ab]at he
  split at h
  ·rename_i len e hf
   split at h
   ·rename_i sz hs
    obtain⟨rfl,rfl⟩:=k8 h
    obtain⟨rfl,ad',len',cap,kk,j,hs',hi',h0,h1⟩:=kS hL h hrel
    simp only [V.den,Value.slice.injEq,Option.some.injEq]at hs'
    obtain⟨rfl,rfl,rfl⟩:=hs'
    have hK':=aq hI hw hK
    simp only [bh,Option.getD_some,V.den,hi',yz,Nat.add_zero]at hK'
    exact jj hop (by rw [he.1];rfl) (he.2.trans hi') hf h0 h1 hs hK'
   cases h
  cases h
 ·-- an element's address in an own array
  rename_i t x y n oo i path
  simp [Op.operands,ab]at he
  split at h
  ·split at h
   ·rename_i len e hf
    split at h
    ·rename_i sz hs
     obtain⟨rfl,rfl⟩:=k8 h
     obtain⟨rfl,ad',len',cap,kk,j,hs',hi',h0,h1⟩:=kS hL h hrel
     simp only [V.den,Value.slice.injEq,Option.some.injEq]at hs'
     obtain⟨rfl,rfl,rfl⟩:=hs'
     have hK':=aq hI hw hK
     have hi2:(V.x i path).den ρ α=.int kk j:=hi'
     simp only [bh,Option.getD_some]at hK'
     rw [show(V.ep (.sl n oo len len) (.x i path) sz 0).den ρ α=.pointer (some ((⟨(α n).b,oo,none⟩:Addr).add (j.toNat*sz))) by simp only [V.den]at hi2 ⊢;rw [hi2];simp [yz]]at hK'
     exact jj hop (by rw [he.1];rfl) (he.2.trans hi2) hf h0 h1 hs hK'
    cases h
   cases h
  cases h
 ·-- an element's address in an own slice
  rename_i t x y n oo l cc i path
  simp [Op.operands,ab]at he
  split at h
  ·split at h
   ·rename_i e hf
    split at h
    ·rename_i sz hs
     obtain⟨rfl,rfl⟩:=k8 h
     obtain⟨rfl,ad',len',cap,kk,j,hs',hi',h0,h1⟩:=kS hL h hrel
     simp only [V.den,Value.slice.injEq,Option.some.injEq]at hs'
     obtain⟨rfl,rfl,rfl⟩:=hs'
     have hK':=aq hI hw hK
     have hi2:(V.x i path).den ρ α=.int kk j:=hi'
     simp only [bh,Option.getD_some]at hK'
     rw [show(V.ep (.sl n oo l cc) (.x i path) sz 0).den ρ α=.pointer (some ((⟨(α n).b,oo,none⟩:Addr).add (j.toNat*sz))) by simp only [V.den]at hi2 ⊢;rw [hi2];simp [yz]]at hK'
     exact eI hop (by rw [he.1];rfl) (he.2.trans hi2) (aO hf) h0 h1 hs rfl hK'
    cases h
   cases h
  cases h
 ·-- an element of an array's value
  rename_i t x y cs i path
  simp [Op.operands,ab]at he
  split at h
  ·split at h
   ·rename_i len e hf
    split at h
    ·rename_i hr hs
     split at h
     ·rename_i hlen
      injection h with h1 h2 h3 h4 h5 h6
      subst h1;subst h2;subst h3;subst h4;subst h5;subst h6
      have hr2:iI (aa ((V.cat [.a cs]).den ρ α)).length 1 ((V.x i path).den ρ α)∧(aa ((V.cat [.a cs]).den ρ α))[idxOf ((V.x i path).den ρ α)*1+0]?=some v:=hrel
      have hcat:aa ((V.cat [.a cs]).den ρ α)=ab ρ α cs:=by simp [V.den,ab,aa]
      rw [hcat]at hr2
      obtain⟨hbd,hcell⟩:=hr2
      obtain⟨kk,j,hi',hj0,hj1⟩:=mY hbd
      rw [hi']at hcell
      simp only [idxOf,Nat.mul_one,Nat.add_zero]at hcell
      rw [aj,hlen,Nat.div_one]at hj1
      have hK':=aq hI hw hK
      rw [← hu rfl]at hK'
      exact nB hop (by rw [he.1];rfl) (he.2.trans hi') hf hj0 hj1 hr hs (by rw [dj];exact hcell) hK'
     cases h
    cases h
   cases h
  cases h
 ·-- makeSlice
  split at h
  ·split at h
   ·split at h<;>cases h
   cases h
  cases h
 ·-- bytes of a string
  rename_i src dst y x
  simp [Op.operands,ab]at he
  split at h
  ·rename_i e hsu hsl
   split at h
   ·rename_i heu
    injection h with h1 h2 h3 h4 h5 h6
    subst h1;subst h2;subst h3;subst h4;subst h5;subst h6
    obtain⟨b,hb,rfl⟩:=(hrel:∃ b:ByteArray,x.den ρ α=.string b∧v=.agg (b.data.toList.map fun x=>Value.int .u8 (x.toNat:Int)).toArray)
    have hrun:=run_bytes_of_string (P:=C.P) W src dst e b hsu (aO hsl) heu
    have hnm':aW s nm:=hnm.resolve_left nofun
    have hxs:∀ α',(⟨[.x sh0.length []],0,.ext 1⟩:ae).xs ρ α'=b.data.toList.map fun x=>Value.int .u8 (x.toNat:Int):=fun α'=>by
     simp [ae.xs,ab,V.den,List.getD_eq_getElem?_getD,hv,aa]
    have hsz:b.data.toList.length=b.size:=by rw [Array.length_toList];rfl
    have hbel:Below W.heap.size W (W.drew.alloc (.cells (bytesRow b (grownCap W b.size 0 e)) e ((bytesRow b (grownCap W b.size 0 e)).size,(bytesRow b (grownCap W b.size 0 e)).size+1))):=(Below.refl _ _).drew.alloc (Nat.le_refl _) _
    have hc:(execOp a.eval o).run C.P W=.ok (.value (.slice (some ⟨W.heap.size,0,none⟩) b.size (grownCap W b.size 0 e))) (W.drew.alloc (.cells (bytesRow b (grownCap W b.size 0 e)) e ((bytesRow b (grownCap W b.size 0 e)).size,(bytesRow b (grownCap W b.size 0 e)).size+1))):=by
     unfold execOp
     simp only [hop,he.trans hb,Sem.run_bind,Sem.run_pure,Result.andThen_ok,hrun]
    unfold Oper.wp
    rw [hc]
    refine jw (b:=⟨[.x sh0.length []],0,.ext 1⟩) hI hnm' rfl hw hK ⟨0,.slice (some ⟨W.heap.size,0,none⟩) b.size (grownCap W b.size 0 e),[]⟩ (hI.step hbel).st (by omega) ⟨_,_,_,rfl,by rw [hxs];simp,grownCap_ge W b.size 0 e,fun _=>rfl⟩ (fun W2 hW2=>?_) fun α' h1 _=>by simp only [bh,Option.getD_some,V.den,h1]
    rw [hxs]
    refine⟨⟨?_,grownCap_ge W b.size 0 e⟩,.inl fun ad n' c' e' _=>?_⟩
    ·have hR:Rd (W.drew.alloc (.cells (bytesRow b (grownCap W b.size 0 e)) e ((bytesRow b (grownCap W b.size 0 e)).size,(bytesRow b (grownCap W b.size 0 e)).size+1))) 1 (some ⟨W.heap.size,0,none⟩) b.size (b.data.toList.map fun x=>Value.int .u8 (x.toNat:Int)):=by
      refine⟨by simp,fun _=>⟨_,rfl,by show W.heap.size<(W.heap.push _).size;rw [Array.size_push];exact Nat.lt_succ_self _,fun j u hu=>?_⟩⟩
      have hadd:(⟨W.heap.size,0,none⟩:Addr).add j=⟨W.heap.size,j,none⟩:=by unfold Addr.add;split<;>simp_all
      rw [hadd]
      unfold World.cell?
      have hh:(W.drew.alloc (.cells (bytesRow b (grownCap W b.size 0 e)) e ((bytesRow b (grownCap W b.size 0 e)).size,(bytesRow b (grownCap W b.size 0 e)).size+1))).heap[W.heap.size]?=some (.cells (bytesRow b (grownCap W b.size 0 e)) e ((bytesRow b (grownCap W b.size 0 e)).size,(bytesRow b (grownCap W b.size 0 e)).size+1)):=by
       show(W.heap.push _)[W.heap.size]?=_
       simp
      simp only [hh,Option.isSome_none,Bool.false_eq_true,if_false]
      have hj:=(List.getElem?_eq_some_iff.1 hu).1
      simp only [List.length_map]at hj
      unfold bytesRow
      rw [Array.getElem?_append_left (by simpa using hj)]
      simpa using hu
     refine hR.same hW2 fun ad e' hm=>?_
     cases e'
     exact absurd (hI.st.gi hm).2 (Nat.lt_irrefl _)
    cases e'
    exact hI.st.bT.size
   cases h
  split at h
  case isFalse=>cases h
  rename_i hb2
  obtain⟨vv0,hbv⟩:=hsee rfl
  rw [hbv]at h
  unfold uY at h
  split at h
  ·-- a row's bytes
   rename_i n
   split at h
   case h_2=>cases h
   rename_i c' e' sz' hrow
   split at h
   case isFalse=>cases h
   rename_i hs1
   subst hs1
   injection h with h1 h2 h3 h4 h5 h6
   subst h1;subst h2;subst h3;subst h4;subst h5;subst h6
   obtain⟨kk,hrn,hkk⟩:=dF hrow
   have hrd:=nV hI hrn hkk
   have hl:=(hI.rows n _ hrn).2.len
   have hl:∃ A len cap,(α n).h=.slice A len cap:=by
    rcases hkk with rfl|rfl
    ·obtain⟨_,A,len,cap,h,_⟩:=hl;exact⟨A,len,cap,h⟩
    obtain⟨_,A,len,cap,h,_⟩:=hl;exact⟨A,len,cap,h⟩
   obtain⟨A,k,cap,hyd⟩:=hl
   rw [hyd]at hrd
   have hRd:Rd W 1 A k ((ab ρ α c').flatMap aa):=hrd.1
   have hcat:aa ((V.cat c').den ρ α)=(ab ρ α c').flatMap aa:=by simp [V.den,aa]
   obtain⟨l,hcl,rfl⟩:=(hrel:∃ l:List UInt8,aa ((V.cat c').den ρ α)=l.map (fun b=>Value.int .u8 (b.toNat:Int))∧v=.string ⟨l.toArray⟩)
   rw [hcat]at hcl
   rw [hcl]at hRd
   have hK2:=aq hI hw hK
   rw [← hu rfl]at hK2
   exact aZ (vh hop (he.trans hyd) hRd hb2) hK2
  ·-- an own part
   rename_i n oo l cc
   split at h
   case h_2=>cases h
   rename_i B hB
   split at h
   case isFalse=>cases h
   rename_i hc1
   injection h with h1 h2 h3 h4 h5 h6
   subst h1;subst h2;subst h3;subst h4;subst h5;subst h6
   obtain⟨hbn,hbk⟩:=c7 hB
   have hat:=hI.st.at_ (hI.dt hbn hbk)
   have hrd:Rd W 1 (some ⟨(α n).b,oo,none⟩) l (((ab ρ α B.c).drop oo).take (l*1)):=Rd.jD hat rfl (by simp [aj];omega)
   rw [Nat.mul_one]at hrd
   have hcat:aa ((V.a ((B.c.drop oo).take l)).den ρ α)=((ab ρ α B.c).drop oo).take l:=by
    simp [V.den,aa,aw,List.map_take,List.map_drop]
   obtain⟨l',hcl,rfl⟩:=(hrel:∃ l':List UInt8,aa ((V.a ((B.c.drop oo).take l)).den ρ α)=l'.map (fun b=>Value.int .u8 (b.toNat:Int))∧v=.string ⟨l'.toArray⟩)
   rw [hcat]at hcl
   rw [hcl]at hrd
   have hK2:=aq hI hw hK
   rw [← hu rfl]at hK2
   exact aZ (vh hop he hrd hb2) hK2
  ·rename_i i path
   injection h with h1 h2 h3 h4 h5 h6
   subst h1;subst h2;subst h3;subst h4;subst h5;subst h6
   obtain⟨l,A,n,c,hKc,hxd,rfl⟩:=(hrel:∃ (l:List UInt8) (A:Option Addr) (n c:Nat),C.K ((V.x i path).den ρ α) 1 (l.map fun b=>Value.int .u8 (b.toNat:Int))∧(V.x i path).den ρ α=.slice A n c∧v=.string ⟨l.toArray⟩)
   have hRd:Rd W 1 A n (l.map fun b=>Value.int .u8 (b.toNat:Int)):=by have:=hKf _ _ _ hKc;rw [hxd]at this;exact this.1
   have hK2:=aq hI hw hK
   rw [← hu rfl]at hK2
   exact aZ (vh hop (he.trans hxd) hRd hb2) hK2
  cases h
 ·-- copy
  rename_i c n oo l cc y
  split at h
  ·rename_i t t' hcal hat
   obtain⟨vv0,hbv⟩:=hsee (by simp [bM,hcal])
   rw [hbv]at h
   exact LU hop hcal hat he h hps hI hv hrel hnm hw hK
  ·rename_i t t' hcal hat
   split at h
   ·rename_i e B hsl hB
    obtain⟨vv0,hbv⟩:=hsee (by simp [bM,hcal])
    rw [hbv]at hB
    obtain⟨hbn,hbk⟩:=c7 hB
    split at h
    ·rename_i hsz
     split at h
     ·rename_i hlen
      split at h
      ·split at h
       ·split at h<;>cases h
       cases h
      ·rename_i n'
       split at h
       ·rename_i c' e' sz' hrow
        split at h
        ·rename_i hs1
         subst hs1
         injection h with h1 h2 h3 h4 h5 h6
         subst h1;subst h2;subst h3;subst h4;subst h5;subst h6
         obtain⟨p,q',rfl,hp,hq⟩:∃ p q',c={ callee:=.builtin .copy,args:=#[p,q'],argTypes:=#[t,t'] }∧a.eval p=.slice (some ⟨(α n).b,oo,none⟩) l cc∧a.eval q'=(α n').h:=by
          obtain⟨cal,ar,at'⟩:=c
          simp only at hcal hat
          subst hcal
          have hat2:at'=#[t,t']:=by rw [← Array.toArray_toList (xs:=at'),hat]
          subst hat2
          simp only [Op.operands,Call.operands,ab,V.den]at he
          have hpq:∃ p q',ar=#[p,q']∧a.eval p=.slice (some ⟨(α n).b,oo,none⟩) l cc∧a.eval q'=(α n').h:=oy (Array.ext' (by simpa using he))
          obtain⟨p,q',rfl,hp,hq⟩:=hpq
          exact⟨p,q',rfl,hp,hq⟩
         obtain⟨kk,hrn,hkk⟩:=dF hrow
         have hrd:=nV hI hrn hkk
         have hl:=(hI.rows n' _ hrn).2.len
         have hl:∃ A len cap,(α n').h=.slice A len cap:=by
          rcases hkk with rfl|rfl
          ·obtain⟨_,A,len,cap,h,_⟩:=hl;exact⟨A,len,cap,h⟩
          obtain⟨_,A,len,cap,h,_⟩:=hl;exact⟨A,len,cap,h⟩
         obtain⟨A,k,cap,hyd⟩:=hl
         rw [hyd]at hrd
         have hRd:Rd W 1 A k ((ab ρ α c').flatMap aa):=hrd.1
         have hcat:aa ((V.cat c').den ρ α)=(ab ρ α c').flatMap aa:=by simp [V.den,aa]
         obtain⟨hone,rfl⟩:=(hrel:(∀ u∈aa ((V.cat c').den ρ α),u.oneCell'=true)∧v=.tuple #[.int .i64 ((Nat.min (aa ((V.cat c').den ρ α)).length l:Nat):Int),.agg ((aa ((V.cat c').den ρ α)).take l++(aa ((V.a ((B.c.drop oo).take l)).den ρ α)).drop (Nat.min (aa ((V.cat c').den ρ α)).length l)).toArray])
         have hkl:((ab ρ α c').flatMap aa).length=k:=by have:=hRd.1;omega
         have hD:aa ((V.a ((B.c.drop oo).take l)).den ρ α)=((ab ρ α B.c).drop oo).take l:=by
          simp [V.den,aa,aw,List.map_take,List.map_drop]
         exact Fc hop hp (hq.trans hyd) hsl hsz hbn hbk hlen hI hvD hRd (by rw [← hcat];exact hone) (by rw [hD,hcat,hkl]) hw hK
        cases h
       cases h
      ·rename_i i path
       injection h with h1 h2 h3 h4 h5 h6
       subst h1;subst h2;subst h3;subst h4;subst h5;subst h6
       obtain⟨p,q',rfl,hp,hq⟩:∃ p q',c={ callee:=.builtin .copy,args:=#[p,q'],argTypes:=#[t,t'] }∧a.eval p=.slice (some ⟨(α n).b,oo,none⟩) l cc∧a.eval q'=(V.x i path).den ρ α:=by
        obtain⟨cal,ar,at'⟩:=c
        simp only at hcal hat
        subst hcal
        have hat2:at'=#[t,t']:=by rw [← Array.toArray_toList (xs:=at'),hat]
        subst hat2
        simp only [Op.operands,Call.operands,ab,V.den]at he
        have hpq:∃ p q',ar=#[p,q']∧a.eval p=.slice (some ⟨(α n).b,oo,none⟩) l cc∧a.eval q'=path.foldl comp (ρ.getD i undef):=oy (Array.ext' (by simpa using he))
        obtain⟨p,q',rfl,hp,hq⟩:=hpq
        exact⟨p,q',rfl,hp,hq⟩
       obtain⟨cells,A,k,cap,hKc,hyd,hone,rfl⟩:=(hrel:∃ cells A k cap,C.K ((V.x i path).den ρ α) 1 cells∧(V.x i path).den ρ α=.slice A k cap∧(∀ u∈cells,u.oneCell'=true)∧v=.tuple #[.int .i64 ((Nat.min k l:Nat):Int),.agg (cells.take (l*1)++(aa ((V.a ((B.c.drop oo).take l)).den ρ α)).drop (Nat.min k l*1)).toArray])
       have hRd:Rd W 1 A k cells:=by have:=hKf _ _ _ hKc;rw [hyd]at this;exact this.1
       have hD:aa ((V.a ((B.c.drop oo).take l)).den ρ α)=((ab ρ α B.c).drop oo).take l:=by
        simp [V.den,aa,aw,List.map_take,List.map_drop]
       exact Fc hop hp (hq.trans hyd) hsl hsz hbn hbk hlen hI hvD hRd hone (by rw [hD,Nat.mul_one,Nat.mul_one]) hw hK
      cases h
     cases h
    cases h
   cases h
  cases h
 ·-- a part of a row
  rename_i t x hi n i
  split at h
  ·simp [Op.operands,ab]at he
   obtain⟨he1',he2'⟩:=he
   obtain⟨vv0,hbv⟩:=hsee rfl
   rw [hbv]at h
   exact Fe hop (.inr ⟨rfl,rfl,rfl⟩) he1' he2' h hI hrel hw hK
  ·split at h
   ·split at h<;>cases h
   cases h
  cases h
 ·rename_i t x lo n i
  split at h
  ·simp [Op.operands,ab]at he
   obtain⟨he1',he2'⟩:=he
   obtain⟨vv0,hbv⟩:=hsee rfl
   rw [hbv]at h
   exact Fe hop (.inl ⟨rfl,rfl,rfl⟩) he1' he2' h hI hrel hw hK
  cases h
 ·-- an element taken out of a row
  rename_i c n i sza n' j szp
  split at h
  case h_2=>cases h
  rename_i t t' hcal hats
  split at h
  case isFalse=>cases h
  rename_i hc
  obtain⟨rfl,rfl⟩:=hc
  obtain⟨vv0,hbv⟩:=hsee (by simp [bM,hcal])
  rw [hbv]at h
  obtain⟨cal,ar,at'⟩:=c
  simp only at hcal hats
  subst hcal
  have hat2:at'=#[t',t']:=by rw [← Array.toArray_toList (xs:=at'),hats]
  subst hat2
  simp only [Op.operands,Call.operands,ab]at he
  obtain⟨p,q',rfl,hp,hq⟩:∃ p q',ar=#[p,q']∧a.eval p=(V.pt (.row n') i false sza).den ρ α∧a.eval q'=(V.pt (.row n') j true szp).den ρ α:=oy (Array.ext' (by simpa using he))
  exact Ky hop hp hq h hI hv hrel hnm hw hK
 ·split at h<;>cases h
 ·-- zeros
  rename_i c y
  split at h
  ·rename_i t t' hcal hat
   split at h
   ·rename_i kk e hui hsl
    split at h
    ·rename_i sz by' z hsz hby hz
     split at h
     ·rename_i hc
      obtain⟨h0,hzs⟩:=hc
      injection h with h1 h2 h3 h4 h5 h6
      subst h1;subst h2;subst h3;subst h4;subst h5;subst h6
      have hnm':aW s nm:=hnm.resolve_left nofun
      obtain⟨cal,ar,at'⟩:=c
      simp only at hcal hat
      subst hcal
      have hat2:at'=#[t,t']:=by rw [← Array.toArray_toList (xs:=at'),hat]
      subst hat2
      simp only [Op.operands,Call.operands,ab]at he
      have hpq:∃ p q',ar=#[p,q']∧a.eval p=(V.k (.slice none 0 0)).den ρ α∧a.eval q'=y.den ρ α:=oy (Array.ext' (by simpa using he))
      obtain⟨p,q',rfl,hp,hq⟩:=hpq
      obtain⟨k,L,hy,hL0,hL1,hL2,rfl⟩:=(hrel:∃ k L,y.den ρ α=.int k L∧0<L∧L≤70368744177664∧L*(by':Int)≤140737488355328∧v=.agg (madeCells z.cells (L.toNat*sz)))
      refine JD hop hp (hq.trans hy) (aO hsl) hui hsz hz hzs hby hL0 hL1 hL2 hI.st fun k' cap Z W' hS hl hcap hmax=>?_
      have hxs:∀ α',(⟨[.x sh0.length []],e,.row sz⟩:ae).xs ρ α'=(madeCells z.cells (L.toNat*sz)).toList:=fun α'=>by
       simp [ae.xs,ab,V.den,List.getD_eq_getElem?_getD,hv,aa]
      refine gw (b:=⟨[.x sh0.length []],e,.row sz⟩) hI hnm' rfl hw hK ⟨k',.slice (some ⟨k',0,none⟩) L.toNat cap,Z⟩ (fun α' h1 h2 h3 h4=>⟨St.perm ?_ (dg (k:=0) hnm'.1 (e:=⟨k',((madeCells z.cells (L.toNat*sz)).toList++Z).toArray,e⟩) ?_),h0,.inr ⟨L.toNat,cap,by rw [h1],by rw [hxs];simp [madeCells],by rw [hxs,h1];exact hl,hcap,hmax⟩⟩) fun α' h1=>by simp only [bh,Option.getD_some,V.den,h1]
      ·rw [h4];exact hS
      simp only [ae.ch,Nat.zero_add,h1,hxs]
     cases h
    cases h
   cases h
  cases h
 ·-- a call of a method value that writes its receiver
  rename_i c g n args'
  split at h
  ·rename_i f hcal
   obtain⟨vv0,hbv⟩:=hsee (by simp [bM,hcal])
   rw [hbv]at h
   unfold uZ at h
   split at h
   case h_2=>cases h
   rename_i L b rw' hcp hB hrw hen
   split at h
   case isFalse=>cases h
   rename_i hc
   obtain⟨hlen,hdis⟩:=hc
   injection h with h1 h2 h3 h4 h5 h6
   subst h1;subst h2;subst h3;subst h4;subst h5;subst h6
   obtain⟨hbn,hbk⟩:=c7 hB
   have hl:=m8 hrw
   obtain⟨as',ha,hP⟩:=(hrel:∃ as',bK C ρ α rw' ((args'++b.c).take rw'.length) as'∧vW C g as' (ab ρ α ((args'++b.c).drop rw'.length)) b.t v)
   rw [List.take_left' hl.symm]at ha
   rw [List.drop_left' hl.symm]at hP
   obtain⟨h5,h6⟩:=ft hI hKf hrw ha
   have hbm:∀ b0∈[(α n).b],∃ (m:Nat) (B:ae) (e:Ch),s.hp[m]?=some (some B)∧B.ch ρ α m=some e∧b0=e.id∧m∈[n]:=fun b0 hb0=>by
    obtain rfl:=List.mem_singleton.1 hb0
    exact⟨n,b,⟨(α n).b,(ab ρ α b.c).toArray,b.t⟩,hbn,by simp only [ae.ch,hbk],rfl,List.mem_cons_self ..⟩
   have hsub:∀ b0∈[(α n).b],b0∈aX (aN ρ α 0 s.hp) (dp a s T):=fun b0 hb0=>by
    obtain rfl:=List.mem_singleton.1 hb0
    exact List.mem_append.2 (.inl (List.mem_map.2 ⟨_,hI.dt hbn hbk,rfl⟩))
   have hup:∀ {W2:World},bc [(α n).b] W W2→bc (aX (aN ρ α 0 s.hp) (dp a s T)) W W2:=fun h=>⟨h.size,fun b0 hb0 hn=>h.block b0 hb0 fun hm=>hn (hsub b0 hm)⟩
   have hcall:=hP W (α n).b (fun x hx W2 hW2=>m9 hI hps hbm hrw ha (fun m hm hc=>by
    have:=List.all_eq_true.1 hdis m hm
    simp only [Bool.not_eq_true',List.contains_eq_mem,decide_eq_false_iff_not]at this
    exact this hc) W2 hW2 x hx) (fun u z cells hk W2 hW2=>hI.st.pers _ (List.mem_append.2 (.inr hps.1)) W2 (hup hW2) _ _ _ hk) (hI.st.at_ (hI.dt hbn hbk))
   obtain⟨cal,ar,at'⟩:=c
   simp only at hcal
   subst hcal
   simp only [Op.operands,Call.operands,ab,V.den]at he
   simp at he
   obtain⟨h7,h8⟩:=he
   have hcs:ab ρ α ((List.range L).map fun j=>V.x sh0.length [j])=aa v:=by
    obtain⟨cs,rfl,hsz⟩:∃ cs:Array Value,v=.agg cs∧cs.size=L:=by
     cases v<;>simp only [Sh.fit,Bool.false_eq_true]at hfit
     rename_i cs
     simp only [Bool.and_eq_true,beq_iff_eq,Array.length_toList]at hfit
     exact⟨cs,rfl,hfit.1⟩
    have:=vL (ρ:=ρ) (α:=α) (u:=undef) (path:=[]) (m:=sh0.length) (N:=L) (cs:=cs.toList) (by rw [List.foldl_nil,hvD]) (by simpa using hsz)
    simp only [List.nil_append]at this
    rw [this]
    rfl
   refine nA hop h7 (vs:=(Value.pointer (some ⟨(α n).b,0,none⟩)::as'.map Arg.v).toArray) ?_ (cR hen _ _) (R:=fun u W'=>u=.tuple #[]∧W'.os=W.os∧W'.tape=W.tape∧W'.output=W.output∧bc [(α n).b] W W'∧W'.heap[(α n).b]?=some (.cells (aa v).toArray b.t (0,0))) (hcall.mono fun e W' ⟨h1,h2⟩=>⟨_,h1,rfl,h2⟩) ?_
   ·rw [h5]
    exact Array.ext' (by simp [h8])
   rintro u W' ⟨rfl,hos,htp,hout,hsm,hbl⟩
   have hupd:lD (α n).b (ab ρ α b.c).toArray b.t (aa v).toArray (aN ρ α 0 s.hp) (aN ρ α 0 (s.hp.set n (some ⟨(List.range L).map fun j=>V.x sh0.length [j],b.t,b.k⟩))):=gu (k:=0) hbn (by simp only [ae.ch,hbk,Nat.zero_add]) (by simp only [ae.ch,hbk,Nat.zero_add,hcs])
   exact gd hI hbn (by simp [ae.bo,hbk]) (by simp [ae.own,hbk]) hw hK (hI.st.wrote hupd hos htp hout hsm hbl) rfl
  cases h
 ·-- bits turned over
  simp [Op.operands,ab]at he
  injection h with h1 h2 h3 h4 h5 h6
  subst h1;subst h2;subst h3;subst h4;subst h5;subst h6
  have hK':=aq hI hw hK
  rw [← hu rfl]at hK'
  exact aZ (Jo hop he hrel) hK'
 ·-- a string's bytes appended
  rename_i c n y
  split at h
  case h_2=>cases h
  rename_i t t' hcal hat
  obtain⟨vv0,hbv⟩:=hsee (by simp [bM,hcal])
  rw [hbv]at h
  unfold uX at h
  split at h
  case h_2=>cases h
  rename_i e hut hsl
  split at h
  case h_2=>cases h
  rename_i by' z hsz hby hz
  split at h
  case h_2=>cases h
  rename_i cc bT hold
  split at h
  case isFalse=>cases h
  rename_i hc
  obtain⟨hzs,hbyl⟩:=hc
  injection h with h1 h2 h3 h4 h5 h6
  subst h1;subst h2;subst h3;subst h4;subst h5;subst h6
  have hnm':aW s nm:=hnm.resolve_left nofun
  obtain⟨cal,ar,at'⟩:=c
  simp only at hcal hat
  subst hcal
  have hat2:at'=#[t,t']:=by rw [← Array.toArray_toList (xs:=at'),hat]
  subst hat2
  simp only [Op.operands,Call.operands,ab]at he
  have hpq:∃ p q',ar=#[p,q']∧a.eval p=(V.row n).den ρ α∧a.eval q'=y.den ρ α:=oy (Array.ext' (by simpa using he))
  obtain⟨p,q',rfl,hp,hq⟩:=hpq
  obtain⟨b,hyb,hb1,hb2,rfl⟩:=(hrel:∃ b:ByteArray,y.den ρ α=.string b∧((aa ((V.cat cc).den ρ α)).length+b.size)*by'≤140737488355328∧(aa ((V.cat cc).den ρ α)).length+b.size≤140737488355328∧v=.agg (b.data.toList.map fun x=>Value.int .u8 (x.toNat:Int)).toArray)
  have hcat:aa ((V.cat cc).den ρ α)=(ab ρ α cc).flatMap aa:=by simp [V.den,aa]
  rw [hcat]at hb1 hb2
  exact A5 (cells:=byteCells b) (m:=b.size) hop hp (hq.trans hyb) (Src.ofString W hut b) (by rw [byteCells_length,Nat.mul_one]) hsl hsz hby hz hold (by omega) hzs hbyl (by simp [V.den,List.getD_eq_getElem?_getD,hv,byteCells]) (by rw [byteCells_length,Nat.div_one];exact hb1) (by rw [byteCells_length,Nat.div_one];exact hb2) hI hnm' hw hK
 ·split at h<;>cases h
 ·unfold zP at h
  split at h
  ·cases h
  ·split at h
   ·cases h
   split at h<;>cases h
  cases h
 ·-- a value of an interface asked for its type
  rename_i x xt ta i path
  have hu0:=hu
  simp [Op.operands,ab]at he
  unfold zQ at h
  split at h
  ·cases h
  ·rename_i d z hni hud hz
   split at h
   ·rename_i hone
    injection h with h1 h2 h3 h4 h5 h6
    subst h1;subst h2;subst h3;subst h4;subst h5;subst h6
    have hK':=aq hI hw hK
    rw [← hu0 rfl]at hK'
    obtain⟨t,c,z',hx,hz',rfl⟩:=hrel
    rw [hz]at hz'
    cases hz'
    by_cases ht:t=ta
    ·subst ht
     simp only [if_true,decide_true]at hK'
     exact aZ (kC hop (he.trans hx) hud (fun ms e=>hni ms e)) hK'
    simp only [if_neg ht,decide_eq_false ht]at hK'
    exact aZ (kD hop (he.trans hx) hud (fun ms e=>hni ms e) ht hz) hK'
   cases h
  cases h
 ·split at h<;>cases h
 ·-- a look into a map
  rename_i t x1 x2 ok n x
  simp [Op.operands,ab,V.den]at he
  obtain⟨he1,he2⟩:=he
  unfold u0 at h
  split at h
  case h_2=>cases h
  rename_i kt sz b z c bt k ag hm hp
  split at h
  case isFalse=>cases h
  rename_i hc
  obtain⟨rfl,rfl⟩:=hc
  injection h with h1 h2 h3 h4 h5 h6
  subst h1;subst h2;subst h3;subst h4;subst h5;subst h6
  obtain⟨vv0,hbv⟩:=hsee rfl
  rw [hbv]at hp
  have hn:=pu hp
  obtain⟨e,hu1,hr,hsz,hz⟩:=mR hm
  have hat:=hI.st.Ka (cU (k:=0) hn (e:=⟨(α n).b,((ab ρ α c).flatMap aa).toArray,.map k ag⟩) (by simp only [ae.ch,Nat.zero_add,ae.xs]))
  obtain⟨nx,l,hq,hvv⟩:=(hrel:∃ nx l,vT C.P kt k (aa ((V.cat c).den ρ α)) (x.den ρ α) nx l∧(((∀ q∈l,q.key≠x.den ρ α)∧v=if ok then .tuple #[z,.bool false]else z)∨∃ q∈l,q.key=x.den ρ α∧v=if ok then .tuple #[sJ ag q.cs,.bool true]else sJ ag q.cs))
  have hcat:aa ((V.cat c).den ρ α)=(ab ρ α c).flatMap aa:=by simp [V.den,aa]
  replace hat:=zI hq (hcat.symm.trans hq.cells) hat
  obtain⟨G,hlaw,hkeys,hkv⟩:=hq.law
  have hK2:=aq hI hw hK
  rw [← hu rfl]at hK2
  have hrun:(Instr.lookup t (.map (some (α n).b)) (x.den ρ α) ok).run C.P W=.ok v W:=by
   rcases D4 (W:=W) (z:=z) (ok:=ok) hu1 hlaw hz hkeys hkv hat with ⟨hno,hrun⟩|⟨j,q,hj,hk,hrun⟩
   ·rcases hvv with ⟨_,rfl⟩|⟨q,hq1,hq2,_⟩
    ·exact hrun
    exact(hno q hq1 hq2).elim
   rcases hvv with ⟨hno,_⟩|⟨q',hq1,hq2,rfl⟩
   ·exact(hno q (List.mem_of_getElem? hj) hk).elim
   obtain⟨j',hj'⟩:=List.getElem?_of_mem hq1
   have hjj:=ki hq.nod hj hj' (hk.trans hq2.symm)
   subst hjj
   rw [hj]at hj'
   cases hj'
   exact hrun
  refine aZ ?_ hK2
  simp only [execOp,hop,he1,he2,Sem.run_bind,Sem.run_pure,hrun,Result.andThen_ok]<;>rfl
 ·-- a store into a map
  rename_i t x1 x2 x3 n x vv
  simp [Op.operands,ab,V.den]at he
  obtain⟨he1,he2,he3⟩:=he
  unfold u4 at h
  split at h
  case h_2=>cases h
  rename_i kt sz b z c bt k ag hm hp
  split at h
  case isFalse=>cases h
  rename_i hc
  obtain⟨rfl,rfl,hA,hcl0⟩:=hc
  injection h with h1 h2 h3 h4 h5 h6
  subst h1;subst h2;subst h3;subst h4;subst h5;subst h6
  obtain⟨vv0,hbv⟩:=hsee rfl
  rw [hbv]at hp
  have hn:=pu hp
  obtain⟨e,hu1,hr,hsz,hz⟩:=mR hm
  have hat:=hI.st.Ka (cU (k:=0) hn (e:=⟨(α n).b,((ab ρ α c).flatMap aa).toArray,.map k ag⟩) (by simp only [ae.ch,Nat.zero_add,ae.xs]))
  obtain⟨nx,l,hq,hvv⟩:=(hrel:∃ nx l,vT C.P kt k (aa ((V.cat c).den ρ α)) (x.den ρ α) nx l∧(((∀ q∈l,q.key≠x.den ρ α)∧v=.agg (bL (nx+1) (l++[⟨x.den ρ α,ab ρ α vv.cells,nx⟩])).toArray)∨∃ j q,l[j]?=some q∧q.key=x.den ρ α∧v=.agg (bL nx (l.set j ⟨x.den ρ α,ab ρ α vv.cells,q.born⟩)).toArray))
  have hcat:aa ((V.cat c).den ρ α)=(ab ρ α c).flatMap aa:=by simp [V.den,aa]
  replace hat:=zI hq (hcat.symm.trans hq.cells) hat
  obtain⟨G,hlaw,hkeys,hkv⟩:=hq.law
  have hvd:vv.den ρ α=sJ ag (ab ρ α vv.cells):=by
   subst hA
   cases vv<;>simp [V.sR,V.cells,sJ,ab,V.den]
  have hlen:(ab ρ α vv.cells).length=k:=by rw [aj,hcl0]
  obtain⟨nx',l',rfl,hl',hrun⟩:∃ (nx':Nat) (l':List Qe),v=.agg (bL nx' l').toArray∧(∀ e∈l',e.cs.length=k)∧(Instr.mapUpdate t (.map (some (α n).b)) (x.den ρ α) (sJ ag (ab ρ α vv.cells))).run C.P W=.ok () (ChangeMaps.setBlock W (α n).b (.map (l'.map (Qe.entry ag)).toArray nx')):=by
   rcases AA (W:=W) (xs:=ab ρ α vv.cells) hu1 hlaw hkeys hkv hat with ⟨hno,hrun⟩|⟨j,q,hj,hk,hrun⟩
   ·rcases hvv with ⟨_,rfl⟩|⟨j,q,hq1,hq2,_⟩
    ·exact⟨_,_,rfl,all_push hq.len hlen,hrun⟩
    exact(hno q (List.mem_of_getElem? hq1) hq2).elim
   rcases hvv with ⟨hno,_⟩|⟨j',q',hj',hq2,rfl⟩
   ·exact(hno q (List.mem_of_getElem? hj) hk).elim
   have hjj:=ki hq.nod hj hj' (hk.trans hq2.symm)
   subst hjj
   rw [hj]at hj'
   cases hj'
   exact⟨_,_,rfl,Ie hq.len hlen,hrun⟩
  have hup:lD (α n).b ((ab ρ α c).flatMap aa).toArray (.map k ag) (bL nx' l').toArray (aN ρ α 0 s.hp) (aN ρ α 0 (s.hp.set n (some ⟨[.x sh0.length []],bt,.mp k ag⟩))):=by
   refine gu (k:=0) hn (by simp only [ae.ch,Nat.zero_add,ae.xs]) ?_
   simp [ae.ch,ae.xs,ab,V.den,List.getD_eq_getElem?_getD,hv,aa]
  have hS:=hI.st.MP hup
  have hrun2:(execOp a.eval o).run C.P W=.ok .skip { W with heap:=W.heap.setIfInBounds (α n).b (Ch.obj ⟨(α n).b,(bL nx' l').toArray,.map k ag⟩) }:=by
   rw [show Ch.obj ⟨(α n).b,(bL nx' l').toArray,.map k ag⟩=.map (l'.map (Qe.entry ag)).toArray nx' from kZ hl']
   simp only [execOp,hop,he1,he2,he3.trans hvd,Sem.run_bind,Sem.run_pure,hrun,Result.andThen_ok]
   rfl
  unfold Oper.wp
  rw [hrun2]
  exact gd hI hn (by simp [ae.bo]) rfl hw hK hS rfl
 ·-- an entry taken out of a map
  rename_i c n x
  unfold qA at h
  split at h
  case h_2=>cases h
  rename_i t t' hcal hats
  split at h
  case h_2=>cases h
  rename_i kt sz b z cc bt k ag hm hp
  injection h with h1 h2 h3 h4 h5 h6
  subst h1;subst h2;subst h3;subst h4;subst h5;subst h6
  obtain⟨vv0,hbv⟩:=hsee (by simp [bM,hcal])
  rw [hbv]at hp
  have hn:=pu hp
  obtain⟨e,hu1,hr,hsz,hz⟩:=mR hm
  have hat:=hI.st.Ka (cU (k:=0) hn (e:=⟨(α n).b,((ab ρ α cc).flatMap aa).toArray,.map k ag⟩) (by simp only [ae.ch,Nat.zero_add,ae.xs]))
  obtain⟨cal,ar,at'⟩:=c
  simp only at hcal hats
  subst hcal
  have hat0:at'[0]?=some t:=by rw [← Array.getElem?_toList,hats];rfl
  simp only [Op.operands,Call.operands,ab]at he
  obtain⟨p,q',rfl,hp1,hp2⟩:∃ p q',ar=#[p,q']∧a.eval p=(V.mapV n).den ρ α∧a.eval q'=x.den ρ α:=oy (Array.ext' (by simpa using he))
  obtain⟨nx,l,hq,hvv⟩:=(hrel:∃ nx l,vT C.P kt k (aa ((V.cat cc).den ρ α)) (x.den ρ α) nx l∧(((∀ q∈l,q.key≠x.den ρ α)∧v=.agg (bL nx l).toArray)∨∃ j q,l[j]?=some q∧q.key=x.den ρ α∧v=.agg (bL nx (l.eraseIdx j)).toArray))
  have hcat:aa ((V.cat cc).den ρ α)=(ab ρ α cc).flatMap aa:=by simp [V.den,aa]
  replace hat:=zI hq (hcat.symm.trans hq.cells) hat
  obtain⟨G,hlaw,hkeys,hkv⟩:=hq.law
  obtain⟨l',rfl,hl',hrun⟩:∃ (l':List Qe),v=.agg (bL nx l').toArray∧(∀ e∈l',e.cs.length=k)∧(Builtin.delete_ at' o.type #[.map (some (α n).b),x.den ρ α]).run C.P W=.ok (.tuple #[]) (ChangeMaps.setBlock W (α n).b (.map (l'.map (Qe.entry ag)).toArray nx)):=by
   rcases GQ (W:=W) (ty:=o.type) hat0 hu1 hlaw hkeys hkv hat with ⟨hno,hrun⟩|⟨j,q,hj,hk,hrun⟩
   ·rcases hvv with ⟨_,rfl⟩|⟨j,q,hq1,hq2,_⟩
    ·exact⟨_,rfl,hq.len,hrun⟩
    exact(hno q (List.mem_of_getElem? hq1) hq2).elim
   rcases hvv with ⟨hno,_⟩|⟨j',q',hj',hq2,rfl⟩
   ·exact(hno q (List.mem_of_getElem? hj) hk).elim
   have hjj:=ki hq.nod hj hj' (hk.trans hq2.symm)
   subst hjj
   exact⟨_,rfl,fun e he=>hq.len e (List.mem_of_mem_eraseIdx he),hrun⟩
  have hup:lD (α n).b ((ab ρ α cc).flatMap aa).toArray (.map k ag) (bL nx l').toArray (aN ρ α 0 s.hp) (aN ρ α 0 (s.hp.set n (some ⟨[.x sh0.length []],bt,.mp k ag⟩))):=by
   refine gu (k:=0) hn (by simp only [ae.ch,Nat.zero_add,ae.xs]) ?_
   simp [ae.ch,ae.xs,ab,V.den,List.getD_eq_getElem?_getD,hv,aa]
  have hS:=hI.st.MP hup
  have hset:ChangeMaps.setBlock W (α n).b (.map (l'.map (Qe.entry ag)).toArray nx)={ W with heap:=W.heap.setIfInBounds (α n).b (Ch.obj ⟨(α n).b,(bL nx l').toArray,.map k ag⟩) }:=by
   rw [show Ch.obj ⟨(α n).b,(bL nx l').toArray,.map k ag⟩=.map (l'.map (Qe.entry ag)).toArray nx from kZ hl']
   rfl
  rw [hset]at hrun
  unfold Oper.wp execOp
  have hp1':a.eval p=.map (some (α n).b):=hp1
  simp only [hop,resolve,invoke,builtin,Sem.run_bind,Sem.run_pure,Result.andThen_ok,List.map_toArray,List.map_cons,List.map_nil,hp1',hp2,hrun]
  exact gd hI hn (by simp [ae.bo]) rfl hw hK hS (by simp [bh,V.den,ab])
 ·-- how many entries
  rename_i c n
  have hs':∃ vv,s.iA o.op [.mapV n]=cA s.hp vv:=⟨fz s.hp o.op [.mapV n],by simp [S.iA,dL,uK]⟩
  rw [hop]at hs'
  obtain⟨vv0,hbv⟩:=hs'
  rw [hbv]at h
  unfold u3 at h
  split at h
  case h_2=>cases h
  rename_i t hcal hats
  split at h
  case h_2=>cases h
  rename_i mp cc bt k ag hm hp
  injection h with h1 h2 h3 h4 h5 h6
  subst h1;subst h2;subst h3;subst h4;subst h5;subst h6
  have hn:=pu hp
  obtain⟨kt,sz,b,z⟩:=mp
  obtain⟨e,hu1,hr,hsz,hz⟩:=mR hm
  have hat:=hI.st.Ka (cU (k:=0) hn (e:=⟨(α n).b,((ab ρ α cc).flatMap aa).toArray,.map k ag⟩) (by simp only [ae.ch,Nat.zero_add,ae.xs]))
  obtain⟨cal,ar,at'⟩:=c
  simp only at hcal hats
  subst hcal
  have hat2:at'=#[t]:=by rw [← Array.toArray_toList (xs:=at'),hats]
  subst hat2
  simp only [Op.operands,Call.operands,ab]at he
  obtain⟨nx,l,hcl,hl,rfl⟩:=(hrel:∃ nx l,aa ((V.cat cc).den ρ α)=bL nx l∧(∀ e∈l,e.cs.length=k)∧v=.int .i64 ((l.length:Nat):Int))
  have hcat:aa ((V.cat cc).den ρ α)=(ab ρ α cc).flatMap aa:=by simp [V.den,aa]
  have hat3:W.heap[(α n).b]?=some (.map (l.map (Qe.entry ag)).toArray nx):=by
   rw [hat,hcat.symm.trans hcl];exact congrArg some (kZ hl)
  obtain⟨p,rfl,hp1⟩:∃ p,ar=#[p]∧a.eval p=(V.mapV n).den ρ α:=MC (Array.ext' (by simpa using he))
  have hp1':a.eval p=.map (some (α n).b):=hp1
  have hrun:(Builtin.len_ #[t] o.type #[.map (some (α n).b)]).run C.P W=.ok (.int .i64 ((l.length:Nat):Int)) W:=by
   simp [Builtin.len_,run_underlying hu1,MapKept.run_getObj_map hat3,goInt,Result.andThen]
  have hK2:=aq hI hw hK
  rw [← hu rfl]at hK2
  unfold Oper.wp execOp
  simp only [hop,resolve,invoke,builtin,Sem.run_bind,Sem.run_pure,Result.andThen_ok,List.map_toArray,List.map_cons,List.map_nil,hp1',hrun]
  exact hK2
 ·-- a call that hands back a row of one's own
  rename_i c g args'
  split at h
  case h_2=>cases h
  rename_i f hcal
  obtain⟨vv0,hbv⟩:=hsee (by simp [bM,hcal])
  rw [hbv]at h
  obtain⟨cal,ar,at'⟩:=c
  simp only at hcal
  subst hcal
  simp only [Op.operands,Call.operands,ab,V.den]at he
  simp at he
  obtain⟨h7,h8⟩:=he
  exact MQ hop h7 (by simpa using h8) h hps hI hv hrel hnm hw hK
 cases h
theorem Fh{sh0:List Sh}{q:cO}{args:List V}{sh:Sh}{mk:Option V}{new:Option ae}{wr:Option (Nat×ae)}{vs:List V}(hsh:sh0<+:s.sh)(hC:C.Ok)(hps:ll C w0 ps)(hvs:o.op.operands.toList.mapM s.ev=some vs)(h:dq C sh0 nm o.op vs (s.iA o.op vs)=.df q args sh mk new wr)(hI:ay w0 ps T ρ s a W α){v:Value}(hv:ρ[sh0.length]?=some v)(hrel:q.rel C ρ α args v)(hfit:sh.fit v=true)
 (hnm:new=none∨aW s nm) (hw:aP s nm (bh sh0.length sh mk) new wr=true) (hK:∀ a' W',Inv w0 ps T ρ (s.cX nm o.dst (bh sh0.length sh mk) new wr) a' W'→K a' W'):o.wp C.P a W K Q:=by
 rcases qD h with ⟨h1,_⟩|⟨_,h2⟩
 ·exact IA hsh hC hps hvs h1 hI hv hrel hfit hnm hw hK
 exact IC hsh hC hps hvs h2 hI hv hrel hfit hnm hw hK
theorem JK{q:cO}{args:List V}{sh:Sh}{mk:Option V}{new:Option ae}{wr:Option (Nat×ae)}{vs:List V}(hC:C.Ok)(hps:ll C w0 ps)(hvs:o.op.operands.toList.mapM s.ev=some vs)(h:dq C s.sh nm o.op vs (s.iA o.op vs)=.df q args sh mk new wr)(hI:ay w0 ps T ρ s a W α){v:Value}(hrel:q.rel C (ρ++[v]) α args v)(hv:sh.fit v=true)
 (hnm:new=none∨aW s nm) (hw:aP (s.ext sh) nm (bh s.sh.length sh mk) new wr=true) (hK:∀ a' W',Inv w0 ps T (ρ++[v]) ((s.ext sh).cX nm o.dst (bh s.sh.length sh mk) new wr) a' W'→K a' W'):o.wp C.P a W K Q:=by
 refine Fh (s:=s.ext sh) (sh0:=s.sh) (vs:=vs) (q:=q) (args:=args) (sh:=sh) (mk:=mk) (new:=new) (wr:=wr) (v:=v) ⟨[sh],rfl⟩ hC hps hvs h (hI.ext hv) ?_ hrel hv hnm hw hK
 rw [hI.good.len]
 simp
theorem xx{bs:List (Nat×Option ae)}{op:Op}{vs args:List V}{g:FuncId}{rw:List Rw}{sh:Sh}(h:qj C bs op vs=some (g,rw,args,sh)):∃ c f,op=.call c∧c.callee=.value f∧vs=.f (.func g) [] []::args∧C.nsh g=some sh∧dK C.P bs c.argTypes.toList args=some rw∧enters C.P g=true∧sh.so []=[]:=by
 unfold qj at h
 split at h
 ·rename_i c g' args'
  split at h
  ·rename_i f sh' rw' hcal hsh hrw hen
   split at h
   ·rename_i hs
    cases h
    exact⟨c,f,rfl,hcal,rfl,hsh,hrw,hen,List.isEmpty_iff.1 hs⟩
   cases h
  cases h
 cases h
theorem ay.more(hI:ay w0 ps T ρ s a W α){ps':List (World→Prop)}(h:∀ p∈ps',p∈ps∨∀ W',bc (aX (aN ρ α 0 s.hp) (dp a s T)) W W'→p W'):ay w0 ps' T ρ s a W α:=by
 refine⟨hI.defers,hI.good,hI.wf,hI.fm,hI.kW,?_,hI.rows,hI.lens⟩
 refine⟨hI.st.bT,hI.st.dt,hI.st.own,hI.st.nodup,fun p hp W' hW=>?_⟩
 rcases List.mem_append.1 hp with hp|hp
 ·exact hI.st.pers p (List.mem_append.2 (.inl hp)) W' hW
 rcases h p hp with h|h
 ·exact hI.st.pers p (List.mem_append.2 (.inr h)) W' hW
 exact h W' hW
theorem ay.plus(hI:ay w0 ps T ρ s a W α)(hps:ll C w0 ps){N:List Arg}(hN:∀ W',bc (aX (aN ρ α 0 s.hp) (dp a s T)) W W'→∀ y∈N,y.rd W'∧fR C.nb y.v):ay w0 (Kf (C.plus N)::NF (C.plus N)::ps) T ρ s a W α:=by
 refine hI.more fun p hp=>?_
 rcases List.mem_cons.1 hp with rfl|hp
 ·refine .inr fun W' hW s' z xs hk=>?_
  have hk:C.K s' z xs∨⟨s',z,xs⟩∈N:=hk
  rcases hk with hk|hk
  ·exact hI.st.pers _ (List.mem_append.2 (.inr hps.1)) W' hW _ _ _ hk
  exact(hN W' hW _ hk).1
 rcases List.mem_cons.1 hp with rfl|hp
 ·exact .inr fun W' hW y hy=>hN W' hW y hy
 exact .inl hp
theorem ll.plus(hps:ll C w0 ps)(N:List Arg):ll (C.plus N) w0 (Kf (C.plus N)::NF (C.plus N)::ps):=⟨List.mem_cons_self ..,hps.2.1,hps.2.2.1,hps.2.2.2.1,.inr (List.mem_cons_of_mem _ (List.mem_cons_self ..))⟩
theorem ll.Bs(hps:ll C w0 ps)(hI:ay w0 ps T ρ s a W α):∀ W',bc (aX (aN ρ α 0 s.hp) (dp a s T)) W W'→∀ y∈C.N,y.rd W'∧fR C.nb y.v:=fun W' hW y hy=>by
 rcases hps.2.2.2.2 with h|h
 ·rw [h]at hy;cases hy
 exact hI.st.pers _ (List.mem_append.2 (.inr h)) W' hW y hy
theorem E4{g:FuncId}{rw:List Rw}{args:List V}{sh:Sh}{vs:List V}{Q':Value→List Arg→Prop}(hC:C.Ok)(hps:ll C w0 ps)(hvs:o.op.operands.toList.mapM s.ev=some vs)(h:qj C (s.iA o.op vs) o.op vs=some (g,rw,args,sh))(hI:ay w0 ps T ρ s a W α)(hq:∃ as',bK C ρ α rw args as'∧C.Rn C.K g as' Q')
 (hw:aP (s.ext sh) nm (bh s.sh.length sh none) none none=true) (hK:∀ v N a' W',sh.fit v=true→Q' v N→Inv w0 (Kf (C.plus (N++C.N))::NF (C.plus (N++C.N))::ps) T (ρ++[v]) ((s.ext sh).cX nm o.dst (bh s.sh.length sh none) none none) a' W'→K a' W'):o.wp C.P a W K Q:=by
 obtain⟨c,f,hop,hcal,rfl,hsh,hrw,hen,hsls⟩:=xx h
 have he:=cD hI.good hI.fm hvs
 obtain⟨as',ha,hR⟩:=hq
 have hKf:Kf C W:=hI.fact hps.1
 rw [show s.iA o.op (.f (.func g) [] []::args)=cA s.hp (fz s.hp o.op (.f (.func g) [] []::args)) by simp [S.iA,hop,dL,bM,hcal]]at hrw
 obtain⟨h5,h6⟩:=ft hI hKf hrw ha
 have hcall:=hC.n g sh hsh C.K as' Q' W hR h6 hKf
 rw [h5]at hcall
 rw [hop]at he
 simp only [Op.operands,Call.operands,hcal,ab,V.den]at he
 simp at he
 obtain⟨h7,h8⟩:=he
 obtain⟨cal,ar,at'⟩:=c
 simp only at hcal h8
 subst hcal
 refine ij hop h7 (vs:=(ab ρ α args).toArray) ?_ (cR hen _ _) (R:=fun u W'=>Below W.heap.size W W'∧∃ N,sh.fit u=true∧Q' u N∧∀ y∈N,y.rd W'∧fR W.heap.size y.v) (hcall.mono fun e W' ⟨hb,v,N,he,hf,hQ,hN⟩=>⟨v,he,hb,N,hf,hQ,hN⟩) ?_
 ·exact Array.ext' (by simpa using h8)
 rintro u W' ⟨hb,N,hfit,hQ,hN⟩
 have hA:=hI.step hb
 have hlt:∀ b∈aX (aN ρ α 0 s.hp) (dp a s T),b<W.heap.size:=fun b hm=>(hI.st.gi hm).2
 have hA2:=hA.plus hps (N:=N++C.N) fun W2 hW2 y hy=>by
  rcases List.mem_append.1 hy with hy|hy
  ·obtain⟨h1,h2⟩:=hN y hy
   refine⟨?_,fun ad n c e hn=>Nat.le_trans (Nat.le_trans hps.2.2.2.1 hI.st.bT.size) (h2 ad n c e hn)⟩
   exact u7 h1 hW2 h2 hlt
  exact hps.Bs hA W2 hW2 y hy
 have hu:u=(bh s.sh.length sh none).den (ρ++[u]) α:=by
  simp only [bh,Option.getD_none]
  exact(iv (ρ++[u]) α _ sh [] u (by rw [hI.good.len];simp [List.getD_eq_getElem?_getD]) hfit).symm
 have hfin:=aq (s:=s.ext sh) (o:=o) (K:=K) (nm:=nm) (v:=bh s.sh.length sh none) (hA2.ext hfit) hw fun a' W' h=>hK u N a' W' hfit hQ h
 rw [← hu]at hfin
 exact hfin
end
end SX
namespace SX
inductive Tree where
 | df (q:cO) (args:List V) (sh:Sh) (t:Tree)
 | br (i:Nat) (path:List Nat) (t e:Tree)
 | sp (i:Nat) (path:List Nat) (l:List Tree)
 | ret (v:V) (hp:List (Option ae)) (stk:List (List (Option V)))
 | loop (vals:List V) (shs:List Sh) (t:Tree)
 | again (lvl:Nat) (vals:List V)
 | bad (why:Nat) (o:List Op)
inductive Pos where
 | s (d:Nat)
 | c (n k:Nat)
 | f (k d:Nat)
 | g (k:Nat) (ds:List Nat)
 deriving Inhabited,DecidableEq
inductive HK where
 | one
 | ag (n:Nat)
 | ext (sz:Nat)
 | row (sz:Nat) (e:TypeId)
 | any
 deriving Inhabited,DecidableEq
structure jY where
 fn:FuncId
 reg:Nat
 pos:List (Pos×HK)
inductive It where
 | code (c:Code)
 | inBlock (id:Nat)
 | rounds (c:Code) (m:Nat)
 | ops (all:Array Oper) (rest:List Oper)
 | back (fn:Func) (cur:FuncId) (dst:Option Tmp) (all:Array Oper) (rest:List Oper)
 | again (lvl:Nat) (an:jY) (ws:List Nat) (s:S)
 | top (fn:Func)
 | beginR
 | dP (cur:FuncId) (dst:Option Tmp) (all:Array Oper) (rest:List Oper)
 | endl (fn:Func) (cur:FuncId) (ps:Array Tmp) (assign body:Code)
 | jump (j:LS)
structure jl where
 inl:FuncId→Bool
 anns:List jY
 ei:Nat
 rounds:Nat
mutual
def V.H6:V→V→Bool
 | .k (.int k i),.k (.int k' j)=>k == k' && i == j
 | .k (.bool i),.k (.bool j)=>i == j
 | .k (.string i),.k (.string j)=>decide (i=j)
 | .k (.slice none a b),.k (.slice none c d)=>a == c && b == d
 | .k (.pointer none),.k (.pointer none)=>true
 | .k (.tuple a),.k (.tuple b)=>a.isEmpty && b.isEmpty
 | .k .nilFunc,.k .nilFunc=>true
 | .k .nilIface,.k .nilIface=>true
 | .x i p,.x j q=>i == j && p == q
 | .p n o,.p m q=>n == m && o == q
 | .sl n o l c,.sl n' o' l' c'=>n == n' && o == o' && l == l' && c == c'
 | .a l,.a m=>sd l m
 | .t l,.t m=>sd l m
 | .f fn a b,.f fn' a' b'=>fn == fn' && sd a a' && sd b b'
 | .ep s i sz o,.ep s' i' sz' o'=>s.H6 s' && i.H6 i' && sz == sz' && o == o'
 | .ifc t v,.ifc t' v'=>t == t' && v.H6 v'
 | .row n,.row m=>n == m
 | .cat l,.cat m=>sd l m
 | .y n,.y m=>n == m
 | .mapV n,.mapV m=>n == m
 | .k (.map none),.k (.map none)=>true
 | .pt s i u sz,.pt s' i' u' sz'=>s.H6 s' && i.H6 i' && u == u' && sz == sz'
 | _,_=>false
def sd:List V→List V→Bool
 | [],[]=>true
 | a::l,b::m=>a.H6 b && sd l m
 | _,_=>false
end
mutual
theorem V.ka:∀ (a b:V),a.H6 b=true→a=b:=by
 intro a b h
 unfold V.H6 at h
 split at h<;>try simp only [Bool.and_eq_true,beq_iff_eq,decide_eq_true_eq,reduceCtorEq]at h
 case h_6 =>
  rename_i x y
  simp at h
  obtain⟨rfl,rfl⟩:=h
  rfl
 case h_12=>rw [kU _ _ h]
 case h_13=>rw [kU _ _ h]
 case h_14=>obtain⟨⟨rfl,h1⟩,h2⟩:=h;rw [kU _ _ h1,kU _ _ h2]
 case h_15=>obtain⟨⟨⟨h1,h2⟩,rfl⟩,rfl⟩:=h;rw [V.ka _ _ h1,V.ka _ _ h2]
 case h_16=>obtain⟨rfl,h1⟩:=h;rw [V.ka _ _ h1]
 case h_18=>rw [kU _ _ h]
 case h_22=>obtain⟨⟨⟨h1,h2⟩,rfl⟩,rfl⟩:=h;rw [V.ka _ _ h1,V.ka _ _ h2]
 all_goals first|rfl|(obtain⟨⟨⟨rfl,rfl⟩,rfl⟩,rfl⟩:=h;rfl)|(obtain⟨rfl,rfl⟩:=h;rfl)|(subst h;rfl)
theorem kU:∀ (l m:List V),sd l m=true→l=m
 | [],[],_=>rfl
 | a::l,b::m,h=>by
  simp only [sd,Bool.and_eq_true]at h
  rw [V.ka a b h.1,kU l m h.2]
 | [],_::_,h=>by simp [sd]at h
 | _::_,[],h=>by simp [sd]at h
end
def gg(s:S)(d:Nat):Option V:=xl s.kn (s.fr[d]?).join
def vc(P:Program)(s:S):ResultVar→Option V
 | .tmp t=>gg s t
 | .cell p t=>match gg s p with
  | some (.p n o)=>match ((s.hp[n]?).join).bind jq,rowOf P t,aM P t with
   | some b,some true,some sz=>if o+sz≤b.c.length then some (.a ((b.c.drop o).take sz))else none
   | some b,some false,_=>b.c[o]?
   | _,_,_=>none
  | _=>none
def xN(P:Program)(s:S)(fn:Func):Option V:=match fn.results.toList.mapM (vc P s)with
 | some [v]=>some v
 | some vs=>some (.t vs)
 | none=>none
def bQ(id:Nat):List It→Option (List It)
 | .inBlock id'::k=>if id=id' then some k else bQ id k
 | .code _::k=>bQ id k
 | .rounds _ _::k=>bQ id k
 | .again _ _ _ _::k=>bQ id k
 | _=>none
def fB:List It→Option (List It)
 | .code _::k=>fB k
 | .inBlock _::k=>fB k
 | .rounds _ _::k=>fB k
 | .again _ _ _ _::k=>fB k
 | .back f c d a r::k=>some (.back f c d a r::k)
 | .top f::k=>some (.top f::k)
 | .endl f c ps a b::k=>some (.endl f c ps a b::k)
 | _=>none
def written:Code→List Nat
 | .region _ ops _=>ops.toList.filterMap (·.dst)
 | .seq a b=>written a++written b
 | .cond _ a b=>written a++written b
 | .block _ c=>written c
 | .loop c=>written c
 | .scope c=>written c
 | .rangeFunc _ ps a b=>ps.toList++written a++written b
 | _=>[]
def fT:Code→Option Nat
 | .region id _ _=>some id
 | .seq a b=>(fT a).or (fT b)
 | .cond _ a b=>(fT a).or (fT b)
 | .block _ c=>fT c
 | .loop c=>fT c
 | .scope c=>fT c
 | _=>none
def Mv:Option V→Option V→Bool
 | none,_=>true
 | some v,some u=>v.H6 u
 | some _,none=>false
def mB(skip:Nat→Bool):Nat→List (Option V)→List (Option V)→Bool
 | _,[],[]=>true
 | k,a::l,b::m=>(skip k || Mv a b) && mB skip (k+1) l m
 | _,_,_=>false
def CP(skip:Nat→Nat→Bool)(n:Nat):Nat→List V→List V→Bool
 | _,[],[]=>true
 | k,a::l,b::m=>(skip n k || a.H6 b) && CP skip n (k+1) l m
 | _,_,_=>false
def iG(dead:List Nat)(skip:Nat→Nat→Bool):Nat→List (Option ae)→List (Option ae)→Bool
 | _,[],_=>true
 | n,none::l,_::m=>iG dead skip (n+1) l m
 | n,some b::l,some b'::m=>(dead.contains n || (b.t == b'.t && decide (b.k=b'.k) && CP skip n 0 b.c b'.c)) && iG dead skip (n+1) l m
 | _,_,_=>false
def gR(_ _:Nat):Bool:=false
def mD:List (List (Option V))→List (List (Option V))→Bool
 | [],[]=>true
 | a::l,b::m=>mB (fun _=>false) 0 a b && mD l m
 | _,_=>false
def sK(skip:Nat→Nat→Bool):Nat→List (List (Option V))→List (List (Option V))→Bool
 | _,[],[]=>true
 | k,a::l,b::m=>mB (skip k) 0 a b && sK skip (k+1) l m
 | _,_,_=>false
def cS(s:S)(n:Nat):Bool:=match s.hp[n]?,s.ln[n]? with
 | some none,some none=>true
 | _,_=>false
def Nx(b:ae):Option ae:=match b.k with
 | .cells=>some b
 | .mp _ _=>some b
 | _=>none
def Pos.get(s:S):Pos→Option V
 | .s d=>gg s d
 | .c n k=>(((s.hp[n]?).join).bind Nx).bind fun b=>b.c[k]?
 | .f k d=>((s.stk[k]?).bind fun fr=>fr[d]?).join
 | .g _ _=>some (.k undef)
def Pos.put(s:S)(v:V):Pos→S
 | .s d=>{ s with fr:=s.fr.set d (some v) }
 | .c n k=>match ((s.hp[n]?).join).bind Nx with
  | some b=>{ s with hp:=s.hp.set n (some ⟨b.c.set k v,b.t,b.k⟩) }
  | none=>s
 | .f k d=>{ s with stk:=s.stk.mapIdx fun j fr=>if j=k then fr.set d (some v)else fr }
 | .g _ _=>s
def fF(s:S):HK→V→Option V
 | .one,v=>if v.one s.sh then some v else none
 | .ag n,.a cs=>if cs.length=n∧oX s.sh cs=true then some (.a cs)else none
 | .ext sz,.row m=>match (s.hp[m]?).join with
  | some b=>if b.k=.ext sz then some (.cat b.c)else none
  | none=>none
 | .row sz e,.row m=>match (s.hp[m]?).join with
  | some b=>if b.k=.row sz∧b.t=e then some (.cat b.c)else none
  | none=>none
 | .any,.x i p=>some (.x i p)
 | .any,.k v=>some (.k v)
 | .any,.a cs=>some (.a cs)
 | _,_=>none
def HK.sh:HK→Sh
 | .one=>.one
 | .ag n=>.ag n
 | _=>.any
def HK.JO:HK→Bool
 | .row _ _=>true
 | _=>false
def HK.named:HK→Bool
 | .row _ _=>true
 | .ext _=>true
 | _=>false
def HK.v(m base j:Nat):HK→V
 | .one=>Sh.exp (m+j) .one []
 | .ag n=>Sh.exp (m+j) (.ag n) []
 | .any=>Sh.exp (m+j) .any []
 | _=>.row (base+j)
def HK.dt(m j:Nat):HK→Option ae
 | .ext sz=>some ⟨[.x (m+j) []],0,.ext sz⟩
 | .row sz e=>some ⟨[.x (m+j) []],e,.row sz⟩
 | _=>none
def nameOf:V→Option Nat
 | .row m=>some m
 | _=>none
def jY.on(an:jY)(s:S):Bool:=an.pos.all fun e=>match e.1 with
 | .c n k=>(Pos.get s (.c n k)).isSome
 | .f k d=>(Pos.get s (.f k d)).isSome
 | _=>true
def pb(an:jY)(s:S):Option (List V):=an.pos.mapM fun e=>(e.1.get s).bind (fF s e.2)
def dr(an:jY)(s:S)(j:Nat):Option Nat:=(an.pos[j]?).bind fun e=>if e.2.named then(e.1.get s).bind nameOf else none
def j3(an:jY)(j:Nat):Bool:=match an.pos[j]? with
 | some e=>e.2.JO
 | none=>false
def eZ(an:jY)(s:S):List Nat:=(List.range an.pos.length).filterMap fun j=>if j3 an j then dr an s j else none
def oC(an:jY)(p:Pos):Option Nat:=an.pos.findIdx? fun e=>decide (e.1=p)
def zR(an:jY)(m base:Nat)(p:Pos):Option V:=(oC an p).bind fun j=>(an.pos[j]?).map fun e=>e.2.v m base j
def pi(an:jY)(ws:List Nat)(m base:Nat)(fr:List (Option V)):List (Option V) :=
 fr.mapIdx fun d v=>match zR an m base (.s d)with
  | some u=>some u
  | none=>if ws.contains d then none else v
def nN(an:jY)(m base:Nat)(dead:List Nat)(hp:List (Option ae)):List (Option ae) :=
 hp.mapIdx fun n b=>b.map fun b=>if dead.contains n then bA else⟨b.c.mapIdx fun k v=>match zR an m base (.c n k)with
  | some u=>u
  | none=>v,b.t,b.k⟩
def jY.KL(an:jY):Bool:=an.pos.any fun e=>match e.1 with
 | .f _ _=>true
 | .g _ _=>true
 | _=>false
def jY.gone(an:jY)(k d:Nat):Bool:=an.pos.any fun e=>match e.1 with
 | .g k' ds=>k' == k && ds.contains d
 | _=>false
def qV(an:jY)(k d:Nat):Bool:=an.KL && ((oC an (.f k d)).isSome || an.gone k d)
def mK(an:jY)(m base:Nat)(l:List (List (Option V))):List (List (Option V)) :=
 if an.KL then l.mapIdx fun k fr=>fr.mapIdx fun d v=>match zR an m base (.f k d)with
  | some u=>some u
  | none=>if an.gone k d then none else v
 else l
def mT(an:jY)(m:Nat):List (Option ae):=an.pos.mapIdx fun j e=>e.2.dt m j
def dx(an:jY)(ws:List Nat)(s:S):S :=
 { s with fr:=pi an ws s.sh.length s.hp.length s.fr,stk:=mK an s.sh.length s.hp.length s.stk,hp:=nN an s.sh.length s.hp.length (eZ an s) s.hp++mT an s.sh.length,ln:=s.ln++mT an s.sh.length,sh:=s.sh++an.pos.map fun e=>e.2.sh }
def yi(an:jY)(ws:List Nat)(d:Nat):Bool:=(oC an (.s d)).isSome || ws.contains d
def BQ(an:jY)(n k:Nat):Bool:=(oC an (.c n k)).isSome
def Bi(an:jY)(l m:List (List (Option V))):Bool:=if an.KL then sK (qV an) 0 l m else mD l m
def mS(an:jY)(s0 s:S):Bool:=decide (s0.hp.length=s0.ln.length) && (List.range an.pos.length).all fun i=>!j3 an i || (match dr an s i with
 | some n=>(decide (s0.hp.length≤n) || (eZ an s0).contains n) && (List.range an.pos.length).all fun j=>decide (i=j) || !j3 an j || !(dr an s j == some n)
 | none=>false)
def settle(s:S):List (Pos×HK)→(S→Tree)→Tree
 | [],k=>k s
 | (p,.ext sz)::l,k=>match p.get s with
  | some (.x i q)=>if decide (0<sz) && decide (i<s.sh.length) && cS (s.room 1) s.hp.length then .df (.kext sz) [.x i q] .any (settle (p.put (((s.room 1).ext .any).make s.hp.length ⟨[.x s.sh.length []],0,.ext sz⟩) (.row s.hp.length)) l k)else .bad 51 []
  | some (.k (.slice none 0 c))=>if decide (0<sz) && cS (s.room 1) s.hp.length then settle (p.put ((s.room 1).make s.hp.length ⟨[],0,.ext sz⟩) (.row s.hp.length)) l k else .bad 52 []
  | _=>settle s l k
 | (p,.row sz e)::l,k=>match p.get s with
  | some (.k (.slice none 0 0))=>if decide (0<sz) && cS (s.room 1) s.hp.length then settle (p.put ((s.room 1).make s.hp.length ⟨[],e,.row sz⟩) (.row s.hp.length)) l k else .bad 53 []
  | _=>settle s l k
 | (_,_)::l,k=>settle s l k
def EZ(an:jY)(ws:List Nat)(s0 s:S)(vals:List V):Nat :=
 if !mB (yi an ws) 0 s0.fr s.fr then 601 else if !Bi an s0.stk s.stk then 602 else if !iG (eZ an s0) (BQ an) 0 s0.hp s.hp then 603 else if !iG [] gR 0 s0.ln s.ln then 604 else if !dc s.ln s.sh.length vals then 605 else if !mS an s0 s then 606 else 607
mutual
def V.names:V→List Nat
 | .p n _=>[n]
 | .sl n _ _ _=>[n]
 | .row n=>[n]
 | .y n=>[n]
 | .mapV n=>[n]
 | .cat cs=>aC cs
 | .a cs=>aC cs
 | .t cs=>aC cs
 | .f _ a b=>aC a++aC b
 | .ep s i _ _=>s.names++i.names
 | .pt s i _ _=>s.names++i.names
 | .ifc _ v=>v.names
 | _=>[]
def aC:List V→List Nat
 | []=>[]
 | v::l=>v.names++aC l
end
mutual
def V.o8(r m:Nat):V→V
 | .p n o=>.p (if n=r then m else n) o
 | .sl n o l c=>.sl (if n=r then m else n) o l c
 | .a cs=>.a (z1 r m cs)
 | .t cs=>.t (z1 r m cs)
 | .f fn a b=>.f fn (z1 r m a) (z1 r m b)
 | v=>v
def z1(r m:Nat):List V→List V
 | []=>[]
 | v::l=>v.o8 r m::z1 r m l
end
mutual
def V.gV(bT:List Nat)(r:Nat):V→Bool
 | .k _=>true
 | .x _ _=>true
 | .p n _=>n == r || bT.contains n
 | .sl n _ _ _=>n == r || bT.contains n
 | .a cs=>ma bT r cs
 | .t cs=>ma bT r cs
 | .f _ a b=>ma bT r a && ma bT r b
 | _=>false
def ma(bT:List Nat)(r:Nat):List V→Bool
 | []=>true
 | v::l=>v.gV bT r && ma bT r l
end
mutual
theorem BF{ρ:List Value}{α α2:Nat→AV}{bT:List Nat}{r m:Nat}(h1:(α2 m).b=(α r).b)(h2:∀ n∈bT,(α2 n).b=(α n).b):∀ (v:V),v.gV bT r=true→(v.o8 r m).den ρ α2=v.den ρ α
 | .k v,_=>rfl
 | .x i p,_=>rfl
 | .p n o,h=>by
  simp only [V.gV,Bool.or_eq_true,beq_iff_eq,List.contains_iff_mem]at h
  simp only [V.o8,V.den]
  split
  ·rename_i e;subst e;rw [h1]
  rename_i e;rw [h2 n (h.resolve_left e)]
 | .sl n o l c,h=>by
  simp only [V.gV,Bool.or_eq_true,beq_iff_eq,List.contains_iff_mem]at h
  simp only [V.o8,V.den]
  split
  ·rename_i e;subst e;rw [h1]
  rename_i e;rw [h2 n (h.resolve_left e)]
 | .a cs,h=>by simp only [V.o8,V.den,kw h1 h2 cs h]
 | .t cs,h=>by simp only [V.o8,V.den,kw h1 h2 cs h]
 | .f fn a b,h=>by
  simp only [V.gV,Bool.and_eq_true]at h
  simp only [V.o8,V.den,kw h1 h2 a h.1,kw h1 h2 b h.2]
 | .ep _ _ _ _,h=>by simp [V.gV]at h
 | .pt _ _ _ _,h=>by simp [V.gV]at h
 | .ifc _ _,h=>by simp [V.gV]at h
 | .row _,h=>by simp [V.gV]at h
 | .cat _,h=>by simp [V.gV]at h
 | .y _,h=>by simp [V.gV]at h
 | .mapV _,h=>by simp [V.gV]at h
theorem kw{ρ:List Value}{α α2:Nat→AV}{bT:List Nat}{r m:Nat}(h1:(α2 m).b=(α r).b)(h2:∀ n∈bT,(α2 n).b=(α n).b):∀ (l:List V),ma bT r l=true→ab ρ α2 (z1 r m l)=ab ρ α l
 | [],_=>rfl
 | v::l,h=>by
  simp only [ma,Bool.and_eq_true]at h
  simp only [z1,ab,BF h1 h2 v h.1,kw h1 h2 l h.2]
end
structure cr where
 v:V
 new:Option ae
 wr:Option (Nat×ae)
 slots:List Nat
 names:List Nat
 snames:List Nat
def tmpsOf:List Operand→List Nat
 | []=>[]
 | .tmp t::l=>t::tmpsOf l
 | _::l=>tmpsOf l
def slotsOf(all:Array Oper)(o:Oper):List Nat:=tmpsOf o.op.operands.toList++(match o.guard with
 | some (g,_)=>(((all[g]?).bind (·.dst))).toList
 | none=>[])
def ct(nm:Nat)(v:V)(new:Option ae)(wr:Option (Nat×ae)):List Nat :=
 (v.names++(match new with|some b=>aC b.c|none=>[])++(match wr with|some (n,b)=>n::aC b.c|none=>[])).filter (· != nm)
def gj(nm:Nat)(d:cr):List Nat:=(match d.new with|some _=>[nm]|none=>[])++(match d.wr with|some (n,_)=>[n]|none=>[])
def fH(nm:Nat)(d:cr):List Nat:=match d.new with|some _=>[nm]|none=>[]
def meets(l m:List Nat):Bool:=l.any fun x=>m.contains x
def conflict(base:Nat)(i j:Nat)(o:Oper)(d:cr)(o':Oper)(d':cr):Bool :=
 meets o.dst.toList (d'.slots++o'.dst.toList) || meets o'.dst.toList d.slots || meets (gj (base+i) d) (d'.names++gj (base+j) d'++[base+j]) || meets (gj (base+j) d') (d.names++[base+i]) || meets (fH (base+i) d) (d'.snames++[base+j]) || meets (fH (base+j) d') (d.snames++[base+i])
def gp(o:Oper):List Nat:=(o.after.toList.filter fun e=>Region.binds .any e).map (·.on)
def once:List Nat→List Nat
 | []=>[]
 | a::l=>if l.contains a then once l else a::once l
theorem qh{x:Nat}:∀ {l:List Nat},x∈once l→x∈l
 | [],h=>h
 | a::l,h=>by
  unfold once at h
  split at h
  ·exact List.mem_cons_of_mem _ (qh h)
  rcases List.mem_cons.1 h with rfl|h
  ·exact List.mem_cons_self ..
  exact List.mem_cons_of_mem _ (qh h)
def r5:List Oper→List (List Nat)→List (List Nat)
 | [],acc=>acc
 | o::l,acc=>r5 l (acc++[once (gp o++(gp o).flatMap fun p=>acc.getD p [])])
def qs(base:Nat)(wa:List (List Nat))(j:Nat)(o':Oper)(d':cr):Nat→List (Oper×cr)→Bool
 | _,[]=>true
 | i,(o,d)::l=>(!conflict base i j o d o' d' || (wa.getD j []).contains i) && qs base wa j o' d' (i+1) l
def mU(base:Nat)(wa:List (List Nat))(pre:List (Oper×cr)):List (Oper×cr)→Bool
 | []=>true
 | (o,d)::l=>qs base wa pre.length o d 0 pre && mU base wa (pre++[(o,d)]) l
def pO:Nat→List Oper→Bool
 | _,[]=>true
 | i,o::l=>(gp o).all (fun p=>decide (p<i)) && pO (i+1) l
def uU(base:Nat)(all:List Oper)(ds:List cr):Bool:=pO 0 all && decide (all.length=ds.length) && mU base (r5 all []) [] (all.zip ds)
def jC(o:Oper):Option (Nat×Nat):=match o.guard,o.op,o.dst with
 | none,.move (.tmp x),some y=>some (x,y)
 | _,_,_=>none
def uW:Op→Bool
 | .select _ _=>false
 | .defer _=>false
 | _=>true
def zK(all:List Oper)(i k:Nat):Bool:=match all[i]?,all[k]? with
 | some o,some o'=>match jC o with
  | some (x,y)=>!(o'.looksAt all.toArray).contains y && !o'.dst.toList.contains y && !o'.dst.toList.contains x && uW o'.op
  | none=>false
 | _,_=>false
def vt(base:Nat)(all:List Oper)(ds:List cr):Bool:=pO 0 all && decide (ds.length<all.length) && mU base (r5 all []) [] (all.zip ds) && (List.range (all.length-ds.length)).all fun r=>(List.range (ds.length+r)).all fun i=>((r5 all []).getD (ds.length+r) []).contains i || (((List.range ds.length).find? fun i=>!((r5 all []).getD ds.length []).contains i) == some i && zK all i (ds.length+r))
def HG(l:List FuncId):List V→Bool
 | .f (.func g) [] _::_=>l.contains g
 | .y _::_=>true
 | _=>false
def Rw.wf(hp:List (Option ae))(m:Nat):Rw→Bool
 | .own _ cs=>dc hp m cs
 | .row _ cs=>dc hp m cs
 | _=>true
def cO.wf(hp:List (Option ae))(m:Nat):cO→Bool
 | .call _ rw=>rw.all (Rw.wf hp m)
 | .callq _ _=>false
 | .lastq _=>false
 | .callg _ rw grw=>rw.all (Rw.wf hp m) && grw.all (Rw.wf hp m)
 | .callw _ rw caps=>rw.all (Rw.wf hp m) && caps.all (dc hp m)
 | .callp _ rw _=>rw.all (Rw.wf hp m)
 | .callr _ rw _ _=>rw.all (Rw.wf hp m)
 | .calln _ rw _ _=>rw.all (Rw.wf hp m)
 | .dR _ _ src=>src.wf hp m
 | .appx _ _ _ src=>src.wf hp m
 | .apo _ _ src=>src.wf hp m
 | _=>true
def gb(hp:List (Option ae))(op:Op)(vs:List V):List Nat:=if dL op vs then []else dJ (fz hp op vs)
def eG(op:Op)(vs:List V):List Nat:=if dL op vs then dJ vs else []
def xe(nms:List Nat)(hp:List (Option ae)):List (Option ae):=hp.mapIdx fun n b=>if nms.contains n then b else none
def FP(k:Nat)(v:V)(hp:List (Option ae)):List (Option ae):=match k with
 | 0=>[]
 | 1=>hp
 | _=>xe v.names hp
def bZ(s:S)(g:FuncId)(fn:Func)(args:List V):S :=
 { fr:=args.map some++List.replicate (fn.ntmps-args.length) (some (.k undef)),stk:=[(aC args).map (fun n=>some (.p n 0))++(aC args).map (fun n=>some (.row n))],hp:=xe (aC args) s.hp,ln:=xe (aC args) s.ln,sh:=s.sh,kn:=s.kn,lps:=[],cur:=g }
def O3(hp:List (Option ae))(m:Nat):Option V→Bool
 | none=>true
 | some v=>v.wf hp m
def EN(s:S):Bool:=s.fr.all (O3 s.ln s.sh.length) && s.stk.all (fun f=>f.all (O3 s.ln s.sh.length)) && (s.ln.all fun b=>match b with|none=>true|some b=>dc s.ln s.sh.length b.c) && ((List.range s.hp.length).all fun n=>match s.hp[n]? with|some (some _)=>lv s.ln n|_=>true) && s.hp.all fun b=>match b with|none=>true|some b=>dc s.ln s.sh.length b.c && decide (b.k=.cells)
def ua(s:S)(v:V)(hp:List (Option ae)):Option (Nat×ae):=(v.names.find? fun n=>decide (s.hp.length≤n)).bind fun r=>(((hp[r]?).join).bind jq).map fun b=>(r,b)
def FQ(kn:List (Nat×List Nat×Value)):Nat:=kn.foldr (fun e a=>a*64+(match e.2.2 with
 | .bool true=>1
 | .bool false=>2
 | .int _ j=>j.toNat+3
 | _=>63)) 0
def r9(C:Cx)(s:S)(i:Nat)(b:Bool)(t:Tree):Tree:=match C.cut.any fun e=>e.1 == i && e.2.1 == 1000000+FQ s.kn && e.2.2 == b with
 | true=>.bad 70 []
 | false=>t
def bz(C:Cx)(inl:FuncId→Bool)(sub:S→List It→Tree)(all:Array Oper)(base:Nat)(cont:S→Tree)(tail:S→List Oper→Tree):Nat→S→List cr→List Oper→Tree
 | 0,_,_,_=>.bad 30 []
 | n+1,s,ds,ops=>match ops with
  | []=>if uU base all.toList ds then cont s else .bad 31 []
  | o::rest =>
   let nm:=base+ds.length
   let go:Tree:=match o.op.operands.toList.mapM s.ev with
    | none=>.bad 32 [o.op]
    | some vs=>match dq C s.sh nm o.op vs (s.iA o.op vs)with
     | .ef v new wr=>if aP s nm v new wr && cS s nm then bz C inl sub all base cont tail n (s.cX nm o.dst v new wr) (ds++[⟨v,new,wr,slotsOf all o,gb s.hp o.op vs,eG o.op vs++ct nm v new wr⟩]) rest else .bad 33 [o.op]
     | .df q args sh mk new wr=>if dc s.ln s.sh.length args && q.wf s.ln s.sh.length && aP (s.ext sh) nm (bh s.sh.length sh mk) new wr && cS s nm then .df q args sh (bz C inl sub all base cont tail n ((s.ext sh).cX nm o.dst (bh s.sh.length sh mk) new wr) (ds++[⟨bh s.sh.length sh mk,new,wr,slotsOf all o,gb s.hp o.op vs,eG o.op vs++ct nm (bh s.sh.length sh mk) new wr⟩]) rest)else .bad 34 [o.op]
     | .br i p=>if i<s.sh.length then .br i p (r9 C s i true (bz C inl sub all base cont tail n (s.dec i p (.bool true)) ds ops)) (r9 C s i false (bz C inl sub all base cont tail n (s.dec i p (.bool false)) ds ops))else .bad 35 [o.op]
     | .sp i p m=>if i<s.sh.length then .sp i p ((List.range m).map fun(j:Nat)=>bz C inl sub all base cont tail n (s.dec i p (.int .i64 (j:Int))) ds ops)else .bad 36 [o.op]
     | .no=>if HG C.tl vs && vt base all.toList ds then tail s (o::rest)else match o.op,vs with
      | .call c,.f (.func g) [] cap::args=>match c.callee,C.P.funcs[g]?,enters C.P g && inl g with
       | .value _,some fn,true=>match fn.body with
        | some body=>if(args++cap).length≤fn.ntmps && EN (bZ s g fn (args++cap))then
         match sub (bZ s g fn (args++cap)) [.code body,.top fn]with
         | .ret v hp' stk'=>if iG [] gR 0 (bZ s g fn (args++cap)).hp hp' && mD (bZ s g fn (args++cap)).stk stk' && v.wf (bZ s g fn (args++cap)).ln s.sh.length then bz C inl sub all base cont tail n (s.put o.dst v) (ds++[⟨v,none,none,slotsOf all o,aC (args++cap),aC (args++cap)⟩]) rest else match ua (bZ s g fn (args++cap)) v hp' with
          | some (r,b)=>if iG [] gR 0 (bZ s g fn (args++cap)).hp hp' && mD (bZ s g fn (args++cap)).stk stk' && v.gV (aC (args++cap)) r && dc (bZ s g fn (args++cap)).ln s.sh.length b.c && aP s nm (v.o8 r nm) (some b) none && cS s nm then bz C inl sub all base cont tail n (s.cX nm o.dst (v.o8 r nm) (some b) none) (ds++[⟨v.o8 r nm,some b,none,slotsOf all o,aC (args++cap),aC (args++cap)++ct nm (v.o8 r nm) (some b) none⟩]) rest else .bad 47 [o.op]
          | none=>.bad 42 [o.op]
         | t=>match t with
          | .bad n l=>.bad (n+100) l
          | _=>.bad 43 [o.op]
         else .bad 44 [o.op]
        | none=>.bad 45 [o.op]
       | _,_,_=>.bad 37 [o.op]
      | _,_=>.bad 46 [o.op]
   match o.guard with
   | none=>go
   | some (g,want)=>match (all[g]?).bind (·.dst)with
    | none=>.bad 38 [o.op]
    | some d=>match gg s d with
     | some (.k (.tuple _))=>bz C inl sub all base cont tail n (s.put o.dst (.k undef)) (ds++[⟨.k undef,none,none,slotsOf all o,[],[]⟩]) rest
     | some (.k (.bool b))=>if b == want then go else bz C inl sub all base cont tail n (s.put o.dst (.k undef)) (ds++[⟨.k undef,none,none,slotsOf all o,[],[]⟩]) rest
     | some (.x i p)=>if i<s.sh.length then .br i p (r9 C s i true (bz C inl sub all base cont tail n (s.dec i p (.bool true)) ds ops)) (r9 C s i false (bz C inl sub all base cont tail n (s.dec i p (.bool false)) ds ops))else .bad 39 [o.op]
     | _=>.bad 40 [o.op]
def L0(P:Program)(G:Nat)(s:S)(op:Op)(vs:List V):Option (Nat×ae×Nat):=match op,vs with
 | .convert t t' _,[.sl n 0 len cap]=>match dG P t,(s.hp[n]?).join with
  | some e,some b=>match P.underlying e with
   | some (.int .u8)=>if G=12∧t=t'∧b.k=.cells∧b.t=e∧b.c.length=len∧cap=len∧0<len then some (n,b,len)else none
   | _=>none
  | _,_=>none
 | _,_=>none
def qm:List It→Bool
 | .code _::k=>qm k
 | .inBlock _::k=>qm k
 | .rounds _ _::k=>qm k
 | .again _ _ _ _::k=>qm k
 | .ops _ _::k=>qm k
 | .jump _::_=>false
 | _=>true
def b6:List It→Option (List It)
 | .code _::k=>b6 k
 | .inBlock _::k=>b6 k
 | .rounds _ _::k=>b6 k
 | .again _ _ _ _::k=>b6 k
 | .dP a b c d::k=>some (.dP a b c d::k)
 | _=>none
def fo:List It→Bool
 | .code _::k=>fo k
 | .inBlock _::k=>fo k
 | .rounds _ _::k=>fo k
 | .again _ _ _ _::k=>fo k
 | .back _ _ _ _ _::_=>true
 | .top _::_=>true
 | .endl _ _ _ _ _::_=>true
 | _=>false
def dw:List It→Option (FuncId×Array Tmp×Code×Code)
 | .code _::k=>dw k
 | .inBlock _::k=>dw k
 | .rounds _ _::k=>dw k
 | .again _ _ _ _::k=>dw k
 | .endl _ cur ps a b::_=>some (cur,ps,a,b)
 | _=>none
def CX(C:Cx)(s:S)(ei:Nat)(op:Op)(vs:List V):Option Nat:=if ei=12 then(match op,vs with
 | .call c,.f (.func g) [] _::args=>match c.callee with
  | .value _=>((C.ali g).filterMap fun(j:Nat)=>match args[j]? with
   | some (V.sl n _ _ _)=>match (s.hp[n]?).join with
    | some b=>if b.k=.cells then some n else none
    | none=>none
   | _=>none)[0]?
  | _=>none
 | _,_=>none)else none
def IX(la:Bool)(s:S)(n:Nat):Option (Nat×Nat×List V):=match (s.hp[n]?).join with
 | some b=>match b.k with
  | .row sz=>some (n,sz,b.c)
  | .ext sz=>if la then some (n,sz,b.c)else none
  | _=>none
 | none=>none
def IY(la:Bool)(s:S)(ei:Nat)(op:Op)(vs:List V):Option (Nat×Nat×List V):=if ei=12 then(match op,vs with
 | .store _ _ _,[_,.row n]=>IX la s n
 | .buildSlice _ _ _,[.row n]=>if la then IX la s n else none
 | _,_=>none)else none
def KO(s:S)(an:jY)(ei:Nat):Option (Nat×Nat×List V):=if ei=12 then(an.pos.filterMap fun e=>match e.2 with
 | .one=>match e.1.get s with
  | some (.row n)=>match (s.hp[n]?).join with
   | some b=>match b.k with
    | .row sz=>some (n,sz,b.c)
    | _=>none
   | none=>none
  | _=>none
 | _=>none)[0]? else none
def KK(ei:Nat)(s:S)(ops:Array Oper):Option Nat:=if ei=12 then(if ops.toList.any (fun o=>match o.op with
 | .slice _ _ none (some _) none=>true
 | _=>false)then(ops.toList.filterMap fun o=>match o.op with
  | .move x=>match s.ev x with
   | some (.row n)=>match (s.hp[n]?).join with
    | some b=>match b.k with
     | .row _=>some n
     | _=>none
    | none=>none
   | _=>none
  | _=>none)[0]? else none)else none
def Ad(fr:List (Option V))(ps:Array Tmp)(args:List V):List (Option V):=(ps.toList.zip args).foldl (fun f e=>f.set e.1 (some e.2)) fr
def iU:Nat→Nat→List (Option ae)→Nat
 | _,r,[]=>r
 | i,r,none::l=>iU (i+1) r l
 | i,_,some _::l=>iU (i+1) (i+1) l
def S.trim(s:S)(b:Bool)(base:Nat):S:=match b with
 | false=>s
 | true=>match max base (max (iU 0 0 s.hp) (iU 0 0 s.ln))with
  | k=>if(s.hp.drop k).all Option.isNone && (s.ln.drop k).all Option.isNone then { s with hp:=s.hp.take k,ln:=s.ln.take k }else s
def wP(C:Cx)(s:S)(i:Nat)(b:Bool)(t:Tree):Tree:=match C.cut.any fun e=>e.1 == i && (e.2.1 == s.kn.length || e.2.1 == 1000000+FQ s.kn) && e.2.2 == b with
 | true=>.bad 70 []
 | false=>t
def run(C:Cx)(G:jl):Nat→Nat→S→List It→Tree
 | 0,_,_,_=>.bad 0 []
 | n+1,lv,s,items=>match items with
  | []=>.bad 1 []
  | .top fn::_=>match xN C.P s fn with
   | some v=>if v.wf s.ln s.sh.length then .ret v (FP G.ei v s.hp) s.stk else .bad 2 []
   | none=>.bad 3 []
  | .back fn cur dst all rest::k=>match xN C.P s fn,s.stk with
   | some v,fr::stk=>if v.wf s.ln s.sh.length then run C G n lv (({ s with fr:=fr,stk:=stk,cur:=cur }:S).put dst v) (.ops all rest::k)else .bad 4 []
   | _,_=>.bad 5 []
  | .again l an ws s0::_=>match KO s an G.ei with
   | some (n0,sz,c)=>.df (.lastq sz) [.cat c] .one (run C G n lv (s.last n0) items)
   | none=>settle s an.pos fun s=>match pb an s with
   | some vals=>if mB (yi an ws) 0 s0.fr s.fr && Bi an s0.stk s.stk && iG (eZ an s0) (BQ an) 0 s0.hp s.hp && iG [] gR 0 s0.ln s.ln && dc s.ln s.sh.length vals && mS an s0 s && s0.cur == s.cur && decide (s0.lps=s.lps)then .again l vals else .bad (EZ an ws s0 s vals) []
   | none=>.bad 7 []
  | .beginR::k=>match s.lps with
   | (m,.ready)::r=>run C G n lv { s with lps:=(m,.busy)::r } k
   | _=>.bad 54 []
  | .dP cur dst all rest::k=>match s.lps,s.stk with
   | (m,.busy)::r,fr::stk=>run C G n lv (({ s with fr:=fr,stk:=stk,lps:=(m,.ready)::r,cur:=cur }:S).put dst (.k (.bool true))) (.ops all rest::k)
   | _,_=>.bad 55 []
  | .jump j::.dP cur dst all rest::k=>match s.lps,s.stk with
   | (m,.busy)::r,fr::stk=>if j.pe.isSome then run C G n lv (({ s with fr:=fr,stk:=stk,lps:=(m,j)::r,cur:=cur }:S).put dst (.k (.bool false))) (.ops all rest::k)else .bad 56 []
   | _,_=>.bad 57 []
  | .jump _::_=>.bad 58 []
  | .endl fn cur _ _ _::k=>match xN C.P s fn,s.lps,s.stk with
   | some v,(_,q)::r,fr::stk=>if q=.busy then .bad 59 []else match q.pe with
    | none=>run C G n lv { s with fr:=fr,stk:=stk,lps:=r,cur:=cur } k
    | some c=>run C G n lv { s with fr:=fr,stk:=stk,lps:=r,cur:=cur } (.code c::k)
   | _,_,_=>.bad 60 []
  | .inBlock _::k=>run C G n lv s k
  | .rounds c m::k=>match m with
   | 0=>.bad 8 []
   | m+1=>run C G n lv s (.code c::.rounds c m::k)
  | .code c::k=>match c with
   | .skip=>run C G n lv s k
   | .label _=>run C G n lv s k
   | .seq a b=>run C G n lv s (.code a::.code b::k)
   | .block id c=>run C G n lv s (.code c::.inBlock id::k)
   | .cond x a b=>match s.ev x with
    | some (.k (.bool true))=>run C G n lv s (.code a::k)
    | some (.k (.bool false))=>run C G n lv s (.code b::k)
    | some (.x i p)=>if i<s.sh.length then .br i p (wP C s i true (run C G n lv (s.dec i p (.bool true)) (.code a::k))) (wP C s i false (run C G n lv (s.dec i p (.bool false)) (.code b::k)))else .bad 9 []
    | _=>.bad 10 []
   | .exit id=>match bQ id k with
    | some k'=>run C G n lv s k'
    | none=>match b6 k with
     | some k'=>run C G n lv s (.jump (.exit id)::k')
     | none=>.bad 11 []
   | .ret=>match fB k with
    | some k'=>run C G n lv s k'
    | none=>match b6 k with
     | some k'=>run C G n lv s (.jump .ret::k')
     | none=>.bad 12 []
   | .rangeFunc g ps assign body=>match s.ev g,fo k with
    | some (.f (.func gf) [] cap),true=>match C.P.funcs[gf]?,enters C.P gf && G.inl gf with
     | some fn,true=>match fn.body with
      | some c=>if 1+cap.length≤fn.ntmps && dc s.ln s.sh.length cap && cS (s.room 1) s.hp.length then
       run C G n lv { (s.room 1).make s.hp.length bA with fr:=(.y s.hp.length::cap).map some++List.replicate (fn.ntmps-(.y s.hp.length::cap:List V).length) (some (.k undef)),stk:=s.fr::s.stk,lps:=(s.hp.length,.ready)::s.lps,cur:=gf } (.code c::.endl fn s.cur ps assign body::k)else .bad 50 []
      | none=>.bad 51 []
     | _,_=>.bad 52 []
    | _,_=>.bad 53 []
   | .loop c=>match G.anns.find? (fun an=>an.fn == s.cur && some an.reg == fT c && an.on s)with
    | none=>run C G n lv s (.rounds c G.rounds::k)
    | some an=>settle s an.pos fun s=>match pb an s with
     | some vals=>if dc s.ln s.sh.length vals && mS an s s then .loop vals (an.pos.map fun e=>e.2.sh) (run C G n (lv+1) (dx an (written c) s) (.code c::.again lv an (written c) s::k))else .bad 13 []
     | none=>.bad 14 []
   | .region _ ops false=>run C G n lv s (.ops ops ops.toList::k)
   | .region id ops true=>match KK G.ei s ops with
    | some n0=>run C G n lv (s.cq n0) (.code (.region id ops true)::k)
    | none=>if C.P.follows .mixedOrders then bz C G.inl (fun s' it=>run C { G with ei:=1 } n 0 s' it) ops s.hp.length (fun s'=>run C G n lv (s'.trim C.trm s.hp.length) k) (fun s' l=>if qm k then run C G n lv (s'.trim C.trm s.hp.length) (.ops ops l::k)else .bad 71 []) (4*ops.size+20) (s.room ops.size) [] ops.toList else .bad 41 []
   | _=>.bad 15 []
  | .ops _ []::k=>run C G n lv s k
  | .ops all (o::rest)::k =>
   let go:Tree:=match o.op.operands.toList.mapM s.ev with
    | none=>.bad 16 [o.op]
    | some vs=>match L0 C.P G.ei s o.op vs with
     | some (n0,b,_)=>if aP ((s.lay n0 bA).room 1) s.hp.length (.row s.hp.length) (some ⟨[.a b.c],0,.ext 1⟩) none && cS ((s.lay n0 bA).room 1) s.hp.length then run C G n lv (((s.lay n0 bA).room 1).cX s.hp.length o.dst (.row s.hp.length) (some ⟨[.a b.c],0,.ext 1⟩) none) (.ops all rest::k)else .bad 82 [o.op]
     | none=>match qj C (s.iA o.op vs) o.op vs with
     | some (g,rw,as',sh)=>if aP (s.ext sh) s.hp.length (bh s.sh.length sh none) none none then .df (.callq g rw) as' sh (run C G n lv ((s.ext sh).cX s.hp.length o.dst (bh s.sh.length sh none) none none) (.ops all rest::k))else .bad 80 [o.op]
     | none=>match dq C s.sh s.hp.length o.op vs (s.iA o.op vs)with
     | .ef v none wr=>if aP s s.hp.length v none wr then run C G n lv (s.cX s.hp.length o.dst v none wr) (.ops all rest::k)else .bad 17 [o.op]
     | .ef v (some b) wr=>if aP (s.room 1) s.hp.length v (some b) wr && cS (s.room 1) s.hp.length then run C G n lv ((s.room 1).cX s.hp.length o.dst v (some b) wr) (.ops all rest::k)else .bad 18 [o.op]
     | .df q args sh mk none wr=>if dc s.ln s.sh.length args && q.wf s.ln s.sh.length && aP (s.ext sh) s.hp.length (bh s.sh.length sh mk) none wr then .df q args sh (run C G n lv ((s.ext sh).cX s.hp.length o.dst (bh s.sh.length sh mk) none wr) (.ops all rest::k))else .bad 20 [o.op]
     | .df q args sh mk (some b) wr=>if dc s.ln s.sh.length args && q.wf s.ln s.sh.length && aP ((s.room 1).ext sh) s.hp.length (bh s.sh.length sh mk) (some b) wr && cS (s.room 1) s.hp.length then .df q args sh (run C G n lv (((s.room 1).ext sh).cX s.hp.length o.dst (bh s.sh.length sh mk) (some b) wr) (.ops all rest::k))else .bad 19 [o.op]
     | .br i p=>if i<s.sh.length then .br i p (run C G n lv (s.dec i p (.bool true)) items) (run C G n lv (s.dec i p (.bool false)) items)else .bad 21 [o.op]
     | .sp i p m=>if i<s.sh.length then .sp i p ((List.range m).map fun(j:Nat)=>run C G n lv (s.dec i p (.int .i64 (j:Int))) items)else .bad 22 [o.op]
     | .no=>match CX C s G.ei o.op vs with
      | some n0=>run C G n lv (s.freeze n0) items
      | none=>match IY C.la s G.ei o.op vs with
      | some (n0,sz,c)=>.df (.lastq sz) [.cat c] .one (run C G n lv (s.last n0) items)
      | none=>match o.op,vs with
      | .call c,.f (.func g) fs cap::args=>match c.callee,C.P.funcs[g]?,enters C.P g && G.inl g with
       | .value _,some fn,true=>match fn.body with
        | some body=>if(fs++(args++cap)).length≤fn.ntmps && dc s.ln s.sh.length (fs++(args++cap))then
         run C G n lv { s with fr:=(fs++(args++cap)).map some++List.replicate (fn.ntmps-(fs++(args++cap)).length) (some (.k undef)),stk:=s.fr::s.stk,cur:=g } (.code body::.back fn s.cur o.dst all rest::k)else .bad 23 [o.op]
        | none=>.bad 24 [o.op]
       | _,_,_=>.bad 25 [o.op]
      | .call c,.y m::args=>match c.callee,s.lps,s.stk,dw k with
       | .value _,(m',.ready)::_,fr::_,some (cur,ps,assign,body)=>if m=m'∧args.length=ps.size∧dc s.ln s.sh.length args=true then
        run C G n lv { s with fr:=Ad fr ps args,stk:=s.fr::s.stk,cur:=cur } (.code assign::.beginR::.code body::.dP s.cur o.dst all rest::k)else .bad 61 [o.op]
       | _,_,_,_=>.bad 62 [o.op]
      | _,_=>.bad 26 [o.op]
   match o.guard with
   | none=>go
   | some (g,want)=>match (all[g]?).bind (·.dst)with
    | none=>.bad 27 [o.op]
    | some d=>match gg s d with
     | some (.k (.tuple _))=>run C G n lv (s.put o.dst (.k undef)) (.ops all rest::k)
     | some (.k (.bool b))=>if b == want then go else run C G n lv (s.put o.dst (.k undef)) (.ops all rest::k)
     | some (.x i p)=>if i<s.sh.length then .br i p (wP C s i true (run C G n lv (s.dec i p (.bool true)) items)) (wP C s i false (run C G n lv (s.dec i p (.bool false)) items))else .bad 28 [o.op]
     | _=>.bad 29 [o.op]
def door(f:FuncId)(fn:Func)(args:List V)(sh:List Sh):S :=
 { fr:=args.map some++List.replicate (fn.ntmps-args.length) (some (.k undef)),stk:=[],hp:=[],ln:=[],sh:=sh,kn:=[],lps:=[],cur:=f }
def zm(fn:Func)(args:List V)(sh:List Sh):Bool:=decide (args.length≤fn.ntmps) && dc [] sh.length args
end SX
end Go.Proofs.YtidekfgkpindbaaGreatDoor
