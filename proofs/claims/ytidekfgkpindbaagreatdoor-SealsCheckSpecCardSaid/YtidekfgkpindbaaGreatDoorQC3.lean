/-
  Texts behind the statement, part 3.
-/
import Derived.Test.YtidekfgkpindbaaGreatDoorQC2
import Derived.LoopN
set_option linter.unusedSimpArgs false
set_option linter.unusedVariables false
namespace Go.Proofs.YtidekfgkpindbaaGreatDoor
open Go Go.RowKit
namespace SX
def Kf(C:Cx)(W:World):Prop:=∀ s sz cells,C.K s sz cells→Arg.rd W ⟨s,sz,cells⟩
def Af(C:Cx)(W:World):Prop:=∀ s sz cells,C.A s sz cells→Arg.rd W ⟨s,sz,cells⟩
def Bf(C:Cx)(B:Nat):Prop:=∀ s sz cells,C.A s sz cells→fV B s
def NF(C:Cx)(W:World):Prop:=∀ y∈C.N,y.rd W∧fV C.nb y.v
def me(C:Cx)(w0:fB)(ps:List (World→Prop)):Prop:=Kf C∈ps∧(∀ W,w0.rt W→Af C W)∧(∀ B,w0.rf B→Bf C B)∧C.nb≤w0.w.heap.size∧(C.N=[]∨NF C∈ps)
def mX(C:Cx)(f:FuncId)(as':List Arg)(W W':World)(hdr:Value)(sz:Nat)(cells:List Value):Prop :=
 (∃ A len cap,hdr=.slice A len cap∧len≤cap)∧Arg.rd W' ⟨hdr,sz,cells⟩ ∧
 (fV W.heap.size hdr∨∃ j∈C.ali f,∃ x,as'[j]?=some x∧(∀ W2,x.rd W2→Arg.rd W2 ⟨hdr,sz,cells⟩)∧∀ B,fV B x.v→fV B hdr)
def Cx.sh(C:Cx)(f:FuncId):Sh:=(C.shp f).getD .one
def Mr(C:Cx)(bs:List Nat)(W W':World)(hdr:Value)(sz:Nat)(cells:List Value):Prop :=
 (∃ A len cap,hdr=.slice A len cap∧len≤cap)∧Arg.rd W' ⟨hdr,sz,cells⟩ ∧
 (fV W.heap.size hdr∨∃ s sz' cells',C.K s sz' cells'∧C.A s sz' cells'∧(∀ W2,Arg.rd W2 ⟨s,sz',cells'⟩→Arg.rd W2 ⟨hdr,sz,cells⟩)∧∀ B,fV B s→fV B hdr)
def Cx.P3(C:Cx):Prop:=∀ f as' caps v W (bs:List Nat) (ts:List TypeId) (b:Nat) (j sz:Nat) (t:TypeId),C.cw f=some (j,sz)→C.Wr C.K f as' caps v→(∀ x∈as',∀ W',bp bs W W'→x.rd W')→(∀ s sz cells,C.K s sz cells→∀ W',bp bs W W'→Arg.rd W' ⟨s,sz,cells⟩)→bs.Nodup→bs.length=caps.length→ts.length=caps.length →
 (∀ (i b:Nat) (c:List Value) (t:TypeId),bs[i]?=some b→caps[i]?=some c→ts[i]?=some t→W.heap[b]?=some (.cells c.toArray t (0,0)))→bs[j]?=some b→ts[j]?=some t →
 Calls C.P f (as'.map Arg.v++bs.map fun b=>Value.pointer (some ⟨b,0,none⟩)).toArray W fun e W'=>∃ hdr,e=.returned hdr∧W'.os=W.os∧W'.tape=W.tape∧W'.output=W.output∧bp [b] W W'∧W'.heap[b]?=some (.cells #[comp v 1] t (0,0))∧Mr C bs W W' hdr sz (ae (comp v 0))
def Cx.OI(C:Cx):Prop:=∀ K f as' v W,C.R K f as' v→(∀ x∈as',x.rd W)→(∀ s sz cells,K s sz cells→Arg.rd W ⟨s,sz,cells⟩)→Calls C.P f (as'.map Arg.v).toArray W fun e W'=>Below W.heap.size W W'∧∃ hdr,e=.returned ((C.sh f).fill hdr v)∧∀ p sz,(p,sz)∈(C.sh f).ti []→mX C f as' W W' hdr sz (ae (p.foldl comp v))
def Cx.OH(C:Cx):Prop:=∀ f sh,C.nsh f=some sh→∀ K as' Q W,C.Rn K f as' Q→(∀ x∈as',x.rd W)→(∀ s sz cells,K s sz cells→Arg.rd W ⟨s,sz,cells⟩)→Calls C.P f (as'.map Arg.v).toArray W fun e W'=>Below W.heap.size W W'∧∃ v N,e=.returned v∧sh.fit v=true∧Q v N∧∀ y∈N,y.rd W'∧fV W.heap.size y.v
structure Cx.Ok(C:Cx):Prop where
 r:C.OI
 w:C.P3
 n:C.OH
theorem Cx.b6{C:Cx}(hw:∀ f,C.cw f=none)(h:C.OI)(hn:∀ f,C.nsh f=none:=by exact fun _=>rfl):C.Ok:=⟨h,fun f _ _ _ _ _ _ _ _ _ _ e=>(by rw [hw f]at e;cases e),fun f _ e=>(by rw [hn f]at e;cases e)⟩
theorem Cx.mo{C:Cx}(hw:∀ f,C.cw f=none)(h:C.OI)(hn:C.OH):C.Ok:=⟨h,fun f _ _ _ _ _ _ _ _ _ _ e=>(by rw [hw f]at e;cases e),hn⟩
theorem Cx.Ok.plus{C:Cx}(h:C.Ok)(hw:∀ f,C.cw f=none)(N:List Arg):(C.plus N).Ok:=⟨h.r,fun f _ _ _ _ _ _ _ _ _ _ e=>(by have e:C.cw f=some _:=e;rw [hw f]at e;cases e),h.n⟩
mutual
theorem vG:∀ (s:Sh)(h v:Value)(p:List Nat),s.ti p=[]→s.fill h v=v
 | .one,h,v,p,_=>by simp [Sh.fill]
 | .any,h,v,p,_=>by simp [Sh.fill]
 | .ag n,h,v,p,_=>by simp [Sh.fill]
 | .sl n,h,v,p,e=>by simp [Sh.ti]at e
 | .tp l,h,v,p,e=>by
  cases v<;>simp only [Sh.fill]
  rename_i vs
  rw [qN l h vs.toList p 0 (by simpa [Sh.ti]using e)]
 | .agl l,h,v,p,e=>by
  cases v<;>simp only [Sh.fill]
  rename_i vs
  rw [qN l h vs.toList p 0 (by simpa [Sh.ti]using e)]
theorem qN:∀ (l:List Sh)(h:Value)(vs:List Value)(p:List Nat)(k:Nat),Sh.Bv l p k=[]→Sh.ml h l vs=vs
 | [],h,vs,p,k,_=>by simp [Sh.ml]
 | s::l,h,[],p,k,_=>by simp [Sh.ml]
 | s::l,h,v::vs,p,k,e=>by
  simp only [Sh.Bv,List.append_eq_nil_iff]at e
  simp only [Sh.ml]
  rw [vG s h v _ e.1,qN l h vs p (k+1) e.2]
end
theorem ay{C:Cx}{f:FuncId}{as':List Arg}{W W':World}{e:Ending}{v:Value}(hs:(C.sh f).ti []=[])(h:e=.returned v∧Below W.heap.size W W'):Below W.heap.size W W'∧∃ hdr,e=.returned ((C.sh f).fill hdr v)∧∀ p sz,(p,sz)∈(C.sh f).ti []→mX C f as' W W' hdr sz (ae (p.foldl comp v)) :=
 ⟨h.2,undef,by rw [vG _ _ _ _ hs];exact h.1,fun p sz hp=>by rw [hs]at hp;cases hp⟩
theorem xI{cs:Array Value}{j:Nat}:comp (.agg cs) j=cs.toList.getD j undef:=rfl
theorem rK(l:List Value)(u:Value):(List.range l.length).map (fun j=>l.getD j u)=l:=by
 apply List.ext_getElem
 ·simp
 intro i h1 h2
 simp at h1
 simp [h1]
mutual
theorem iV(ρ:List Value)(α:Nat→AV)(i:Nat):∀ (s:Sh)(path:List Nat)(v:Value),path.foldl comp (ρ.getD i undef)=v→s.fit v=true→(s.exp i path).den ρ α=v
 | .one,path,v,h,_=>by simp only [Sh.exp,V.den];exact h
 | .any,path,v,h,_=>by simp only [Sh.exp,V.den];exact h
 | .ag n,path,v,h,hf=>by
  cases v<;>simp [Sh.fit]at hf
  rename_i cs
  obtain⟨rfl,_⟩:=hf
  simp only [Sh.exp,V.den,aE,List.map_map]
  have:(List.range cs.size).map (V.den ρ α∘fun j=>V.x i (path++[j]))=cs.toList:=by
   rw [← rK cs.toList undef,Array.length_toList]
   refine List.map_congr_left fun j _=>?_
   simp only [Function.comp,V.den,List.foldl_append,h,List.foldl_cons,List.foldl_nil,xI]
  rw [this]
 | .sl n,path,v,h,_=>by simp only [Sh.exp,V.den];exact h
 | .agl l,path,v,h,hf=>by
  cases v<;>simp [Sh.fit]at hf
  rename_i vs
  simp only [Sh.exp,V.den]
  rw [qL ρ α i l path 0 vs.toList (fun j=>by
   simp only [List.foldl_append,h,List.foldl_cons,List.foldl_nil,comp,Nat.zero_add]) hf]
 | .tp l,path,v,h,hf=>by
  cases v<;>simp [Sh.fit]at hf
  rename_i vs
  simp only [Sh.exp,V.den]
  rw [qL ρ α i l path 0 vs.toList (fun j=>by
   simp only [List.foldl_append,h,List.foldl_cons,List.foldl_nil,comp,Nat.zero_add]) hf]
theorem qL(ρ:List Value)(α:Nat→AV)(i:Nat):∀ (l:List Sh)(path:List Nat)(k:Nat)(vs:List Value),(∀ j,(path++[k+j]).foldl comp (ρ.getD i undef)=vs.getD j undef)→Sh.dL l vs=true→ah ρ α (Sh.Dz i l path k)=vs
 | [],path,k,[],_,_=>by simp [Sh.Dz,ah]
 | [],path,k,_::_,_,h=>by simp [Sh.dL]at h
 | _::_,path,k,[],_,h=>by simp [Sh.dL]at h
 | s::l,path,k,v::vs,h,hf=>by
  simp only [Sh.dL,Bool.and_eq_true]at hf
  simp only [Sh.Dz,ah]
  rw [iV ρ α i s (path++[k]) v (by simpa using h 0) hf.1,qL ρ α i l path (k+1) vs (fun j=>by
   have:=h (j+1)
   rw [show k+(j+1)=k+1+j by omega]at this
   simpa using this) hf.2]
end
mutual
theorem xQ(ρ:List Value)(α:Nat→AV)(nm i:Nat):∀ (s:Sh)(path:List Nat)(v:Value),path.foldl comp (ρ.getD i undef)=v→s.fit v=true→(s.qM nm i path).den ρ α=s.fill ((α nm).h) v
 | .one,path,v,h,_=>by simp only [Sh.qM,V.den,Sh.fill];exact h
 | .any,path,v,h,_=>by simp only [Sh.qM,V.den,Sh.fill];exact h
 | .ag n,path,v,h,hf=>by
  have:=iV ρ α i (.ag n) path v h hf
  simp only [Sh.exp]at this
  simp only [Sh.qM,Sh.fill]
  exact this
 | .sl n,path,v,h,_=>by simp only [Sh.qM,V.den,Sh.fill]
 | .agl l,path,v,h,hf=>by
  cases v<;>simp [Sh.fit]at hf
  rename_i vs
  simp only [Sh.qM,V.den,Sh.fill]
  rw [oy ρ α nm i l path 0 vs.toList (fun j=>by
   simp only [List.foldl_append,h,List.foldl_cons,List.foldl_nil,comp,Nat.zero_add]) hf]
 | .tp l,path,v,h,hf=>by
  cases v<;>simp [Sh.fit]at hf
  rename_i vs
  simp only [Sh.qM,V.den,Sh.fill]
  rw [oy ρ α nm i l path 0 vs.toList (fun j=>by
   simp only [List.foldl_append,h,List.foldl_cons,List.foldl_nil,comp,Nat.zero_add]) hf]
theorem oy(ρ:List Value)(α:Nat→AV)(nm i:Nat):∀ (l:List Sh)(path:List Nat)(k:Nat)(vs:List Value),(∀ j,(path++[k+j]).foldl comp (ρ.getD i undef)=vs.getD j undef)→Sh.dL l vs=true→ah ρ α (Sh.tR nm i l path k)=Sh.ml ((α nm).h) l vs
 | [],path,k,[],_,_=>by simp [Sh.tR,ah,Sh.ml]
 | [],path,k,_::_,_,h=>by simp [Sh.dL]at h
 | _::_,path,k,[],_,h=>by simp [Sh.dL]at h
 | s::l,path,k,v::vs,h,hf=>by
  simp only [Sh.dL,Bool.and_eq_true]at hf
  simp only [Sh.tR,ah,Sh.ml]
  rw [xQ ρ α nm i s (path++[k]) v (by simpa using h 0) hf.1,oy ρ α nm i l path (k+1) vs (fun j=>by
   have:=h (j+1)
   rw [show k+(j+1)=k+1+j by omega]at this
   simpa using this) hf.2]
end
def bx(m:Nat)(sh:Sh)(mk:Option V):V:=mk.getD (sh.exp m [])
theorem de{P:Program}{f:FuncId}(h:enters P f=true)(args:Array Value)(W:World):(callFunc f args).run P W=.ok (.enter f args) W:=by
 unfold enters at h
 split at h
 ·rename_i fn hf
  simp only [Bool.and_eq_true,Bool.not_eq_true']at h
  have h1:¬ fn.name = "runtime.NumGoroutine" := by simpa using h.1
  obtain⟨c,hc⟩:=Option.isSome_iff_exists.1 h.2
  simp [callFunc,hf,h1,hc]
 cases h
section
variable {C:Cx}{w0:fB}{ps:List (World→Prop)}{T:List TF}{ρ:List Value}{s:S}{a:Act}{W:World}{α:Nat→AV}{K:Act→World→Prop}{Q:Exit→Act→World→Prop}{o:Oper}{nm:Nat}
theorem rX{q q':cZ}{f:Value→Option Value}{x:V}{args:List V}{sh:Sh}{mk:Option V}(h:H8 q f x=.df q' args sh mk none none):q'=q∧args=[x]∧sh=.one∧mk=none:=by
 unfold H8 at h
 split at h
 ·split at h
  ·split at h<;>cases h
  cases h
 injection h with h1 h2 h3 h4
 exact⟨h1.symm,h2.symm,h3.symm,h4.symm⟩
theorem wD{q q':cZ}{f:Value→Value→Option Value}{x y:V}{args:List V}{sh:Sh}{mk:Option V}(h:IU q f x y=.df q' args sh mk none none):q'=q∧args=[x,y]∧sh=.one∧mk=none:=by
 unfold IU at h
 split at h
 ·split at h
  ·split at h<;>cases h
  cases h
 injection h with h1 h2 h3 h4
 exact⟨h1.symm,h2.symm,h3.symm,h4.symm⟩
theorem aF.O6(hI:aF w0 ps T ρ s a W α){n:Nat}{b:ak}(hn:s.hp[n]?=some (some b))(hk:b.k=.froz):∀ W2,bp (bk (aU ρ α 0 s.hp) (dP a s T)) W W2→W2.heap[(α n).b]?=some (.cells (ah ρ α b.c).toArray b.t (0,0))∧w0.w.heap.size≤(α n).b:=fun W2 h =>
 hI.st.pers (fun W=>W.heap[(α n).b]?=some (.cells (ah ρ α b.c).toArray b.t (0,0))∧w0.w.heap.size≤(α n).b) (List.mem_append.2 (.inl (cL.2 ⟨n,b,hn,by rw [Nat.zero_add];simp only [ak.ex,hk]⟩))) W2 h
theorem aF.PM(hI:aF w0 ps T ρ s a W α){n:Nat}{b:ak}(hn:s.hp[n]?=some (some b))(hk:b.k=.cells∨b.k=.froz):W.heap[(α n).b]?=some (.cells (ah ρ α b.c).toArray b.t (0,0)):=by
 rcases hk with hk|hk
 ·exact hI.st.at_ (hI.dS hn hk)
 exact(hI.O6 hn hk W (.refl _ _)).1
theorem fO(hI:aF w0 ps T ρ s a W α)(hKf:Kf C W){vv:List V}:∀ {ts:List TypeId}{vs:List V}{rw:List Rw}{as':List Arg},ew C.P (cK s.hp vv) ts vs=some rw→bT C ρ α rw vs as'→as'.map Arg.v=ah ρ α vs∧∀ x∈as',x.rd W
 | [],[],rw,as',h,ha=>by
  obtain rfl:[]=rw:=by simpa [ew]using h
  cases as' with
  | nil=>exact⟨rfl,fun _ h=>nomatch h⟩
  | cons _ _=>exact ha.elim
 | [],_::_,rw,as',h,ha=>by simp [ew]at h
 | _::_,[],rw,as',h,ha=>by simp [ew]at h
 | t::ts,v::vs,rw,as',h,ha=>by
  unfold ew at h
  simp only [Option.bind_eq_some_iff,Option.map_eq_some_iff]at h
  obtain⟨r,hr,rw',hrw,rfl⟩:=h
  have key:∀ x xs,as'=x::xs→x.v=v.den ρ α→x.rd W→bT C ρ α rw' vs xs→as'.map Arg.v=ah ρ α (v::vs)∧∀ x∈as',x.rd W:=fun x xs h1 h2 h3 h4=>by
   obtain⟨h5,h6⟩:=fO hI hKf hrw h4
   subst h1
   refine⟨by simp [ah,h2,h5],fun y hy=>?_⟩
   rcases List.mem_cons.1 hy with rfl|hy
   ·exact h3
   exact h6 y hy
  split at hr
  ·rename_i n oo l cc e he
   split at hr
   ·rename_i sz b hsz hb
    split at hr
    ·rename_i hlt
     obtain rfl:Rw.own sz ((b.c.drop oo).take (l*sz))=r:=af hr
     cases as' with
     | nil=>exact ha.elim
     | cons x xs =>
      obtain⟨rfl,h4⟩:=ha
      refine key _ _ rfl rfl ?_ h4
      have hblk:=hI.PM (gF hb).1 (gF hb).2
      refine⟨?_,hlt.2⟩
      show Rd W sz (some ⟨(α n).b,oo,none⟩) l (ah ρ α ((b.c.drop oo).take (l*sz)))
      exact Rd.j8 hblk (by rw [cz]) (by rw [cz];simp [aq];omega)
    cases hr
   cases hr
  ·rename_i cc e he
   split at hr
   ·rename_i sz hsz
    obtain rfl:Rw.own sz []=r:=af hr
    cases as' with
    | nil=>exact ha.elim
    | cons x xs =>
     obtain⟨rfl,h4⟩:=ha
     refine key _ _ rfl rfl ?_ h4
     exact⟨Rd.none_,Nat.zero_le _⟩
   cases hr
  ·rename_i i p e he
   split at hr
   ·rename_i sz hsz
    obtain rfl:Rw.ext sz=r:=af hr
    cases as' with
    | nil=>exact ha.elim
    | cons x xs =>
     obtain⟨h1,h2,h3,h4⟩:=ha
     refine key _ _ rfl h1 ?_ h4
     have:=hKf _ _ _ h3
     rw [← h1]at this
     cases x
     subst h2
     exact this
   cases hr
  ·rename_i n e he
   simp only [Option.map_eq_some_iff]at hr
   obtain⟨⟨c,e',sz⟩,hrow,rfl⟩:=hr
   cases as' with
   | nil=>exact ha.elim
   | cons x xs =>
    obtain⟨rfl,h4⟩:=ha
    refine key _ _ rfl rfl ?_ h4
    obtain⟨k,hrn,hk⟩:=ee hrow
    show Arg.rd W ⟨(α n).h,sz,(ah ρ α c).flatMap ae⟩
    exact oK hI hrn hk
  ·cases hr
  ·cases hr
  ·cases hr
  obtain rfl:Rw.no=r:=af hr
  cases as' with
  | nil=>exact ha.elim
  | cons x xs =>
   obtain⟨rfl,h1,h4⟩:=ha
   refine key _ _ rfl rfl ?_ h4
   unfold Arg.rd
   split
   ·rename_i hq
    dsimp only at hq
    rw [hq]at h1
    cases h1
   trivial
theorem nP{P:Program}{bs:List (Nat×Option ak)}:∀ {ts:List TypeId}{vs:List V}{rw:List Rw},ew P bs ts vs=some rw→rw.length=vs.length
 | [],[],rw,h=>by
  obtain rfl:[]=rw:=by simpa [ew]using h
  rfl
 | [],_::_,rw,h=>by simp [ew]at h
 | _::_,[],rw,h=>by simp [ew]at h
 | t::ts,v::vs,rw,h=>by
  unfold ew at h
  simp only [Option.bind_eq_some_iff,Option.map_eq_some_iff]at h
  obtain⟨r,hr,rw',hrw,rfl⟩:=h
  simp [nP hrw]
theorem B5(hI:aF w0 ps T ρ s a W α){vv:List V}:∀ {vs:List V}{rw:List Rw}{gs:List Arg},Ge C.P (cK s.hp vv) vs=some rw→bT C ρ α rw vs gs→∀ x∈gs,x.rd W
 | [],rw,gs,h,ha=>by
  obtain rfl:[]=rw:=by simpa [Ge]using h
  cases gs with
  | nil=>exact fun _ h=>nomatch h
  | cons _ _=>exact ha.elim
 | v::vs,rw,gs,h,ha=>by
  unfold Ge at h
  simp only [Option.bind_eq_some_iff,Option.map_eq_some_iff]at h
  obtain⟨r,hr,rw',hrw,rfl⟩:=h
  have key:∀ x xs,gs=x::xs→x.rd W→bT C ρ α rw' vs xs→∀ x∈gs,x.rd W:=fun x xs h1 h3 h4=>by
   have h6:=B5 hI hrw h4
   subst h1
   intro y hy
   rcases List.mem_cons.1 hy with rfl|hy
   ·exact h3
   exact h6 y hy
  split at hr
  ·rename_i n oo l cc
   split at hr
   ·rename_i b hb
    split at hr
    ·rename_i sz hsz
     split at hr
     ·rename_i hlt
      obtain rfl:Rw.own sz ((b.c.drop oo).take (l*sz))=r:=af hr
      cases gs with
      | nil=>exact ha.elim
      | cons x xs =>
       obtain⟨rfl,h4⟩:=ha
       refine key _ _ rfl ?_ h4
       have hblk:=hI.PM (gF hb).1 (gF hb).2
       refine⟨?_,hlt.2⟩
       show Rd W sz (some ⟨(α n).b,oo,none⟩) l (ah ρ α ((b.c.drop oo).take (l*sz)))
       exact Rd.j8 hblk (by rw [cz]) (by rw [cz];simp [aq];omega)
     cases hr
    cases hr
   cases hr
  ·rename_i n
   simp only [Option.map_eq_some_iff]at hr
   obtain⟨⟨c,e',sz⟩,hrow,rfl⟩:=hr
   cases gs with
   | nil=>exact ha.elim
   | cons x xs =>
    obtain⟨rfl,h4⟩:=ha
    refine key _ _ rfl ?_ h4
    obtain⟨k,hrn,hk⟩:=ee hrow
    show Arg.rd W ⟨(α n).h,sz,(ah ρ α c).flatMap ae⟩
    exact oK hI hrn hk
  cases hr
theorem Kq(hI:aF w0 ps T ρ s a W α)(hKf:Kf C W){vv:List V}{ts:List TypeId}{g:FuncId}{rw:List Rw}{args':List V}{v:Value}(hrw:ew C.P (cK s.hp vv) ts args'=some rw)(hrel:(K0 C (cK s.hp vv) g rw args').1.rel C ρ α (K0 C (cK s.hp vv) g rw args').2 v) :
 ∃ K' as',bT C ρ α rw args' as'∧C.R K' g as' v∧(∀ s sz cells,K' s sz cells→Arg.rd W ⟨s,sz,cells⟩)∧ve C g rw as':=by
 unfold K0 at hrel
 split at hrel
 ·rename_i r grw hg
  obtain⟨as',gs,h1,h2,h3,h4⟩:=hrel
  have hl:=nP hrw
  rw [List.take_left' hl.symm]at h1
  rw [List.drop_left' hl.symm]at h2
  refine⟨_,as',h1,h3,fun u sz cells hk=>?_,h4⟩
  rcases hk with hk|hk
  ·exact hKf _ _ _ hk
  exact B5 hI hg h2 _ hk
 obtain⟨as',h1,h3,h4⟩:=hrel
 exact⟨C.K,as',h1,h3,hKf,h4⟩
theorem rT{P:Program}{neq:Bool}{t t':TypeId}{x y:Operand}{l:List CK}{xs ys:List Value}{b:Bool}(hop:o.op=.binOp (if neq then .neq else .eql) t x y t')(hx:a.eval x=.agg xs.toArray)(hy:a.eval y=.agg ys.toArray)(hk:fK P 20 t=some l)(hr:rowOf P t=some true)(hg:P.eqGuardType P.depth t=false)
 (fx:fits l xs=true) (fy:fits l ys=true) (hB:b=true↔xs=ys) (h:K (a.put o.dst (.bool (neq ^^ b))) W):o.wp P a W K Q:=by
 have hB':b=true↔xs.toArray=ys.toArray:=by rw [hB];exact⟨fun h=>by rw [h],fun h=>af h⟩
 cases neq
 ·exact Mk hop hx hy hk hr hg (af fx) (af fy) hB' (af h)
 exact Ml hop hx hy hk hr hg (af fx) (af fy) hB' (af h)
theorem zT{s i:Value}(h:Mq s i):∃ ad n c k j,s=.slice (some ad) n c∧i=.int k j∧0≤j∧j<n:=by
 unfold Mq at h
 split at h
 ·exact⟨_,_,_,_,_,rfl,rfl,h.1,h.2⟩
 exact h.elim
def Ij(str:Bool)(sz:Nat)(x:Value)(r:Option Value×Option Value×Option Value):Option Value:=match str,x with
 | false,.slice a len cap=>(b7 len cap r.1 r.2.1 r.2.2).map fun(l,h,m)=>.slice (if m=l then a else a.map (·.add (l*sz))) (h-l) (m-l)
 | true,.string s=>if r.2.2.isSome then none else(b7 s.size s.size r.1 r.2.1 none).map fun(l,h,_)=>.string (s.extract l h)
 | _,_=>none
theorem wH{t:TypeId}{xo:Operand}{lo hi mx:Option Operand}{str:Bool}{sz:Nat}{xs:List Value}{v:Value}(he:(Op.slice t xo lo hi mx).operands.toList.map a.eval=xs)(h:oM str sz lo.isSome hi.isSome mx.isSome xs=some v):∃ x r,a.eval xo=x∧iY a lo hi mx=r∧Ij str sz x r=some v:=by
 cases xs with
 | nil=>simp [oM]at h
 | cons x bs =>
  have he':a.eval xo::(lo.toArray++hi.toArray++mx.toArray).toList.map a.eval=x::bs:=by
   rw [← he];simp [Op.operands]
  injection he' with h3 h4
  simp only [oM,Option.bind_eq_some_iff]at h
  obtain⟨r,hr,h⟩:=h
  exact⟨x,r,h3,uk h4 hr,h⟩
theorem Ka{sz:Nat}{x v:Value}{r:Option Value×Option Value×Option Value}(h:Ij true sz x r=some v):∃ s l h m,x=.string s∧r.2.2.isSome=false∧b7 s.size s.size r.1 r.2.1 none=some (l,h,m)∧v=.string (s.extract l h):=by
 cases x<;>simp only [Ij,reduceCtorEq]at h
 rename_i s
 split at h
 ·cases h
 rename_i hm
 simp only [Option.map_eq_some_iff,Option.some.injEq]at h
 obtain⟨⟨l,h1,m⟩,hb,rfl⟩:=h
 exact⟨_,l,h1,m,rfl,af hm,hb,rfl⟩
theorem Ik{sz:Nat}{x v:Value}{r:Option Value×Option Value×Option Value}(h:Ij false sz x r=some v):∃ A len cap l h m,x=.slice A len cap∧b7 len cap r.1 r.2.1 r.2.2=some (l,h,m)∧v=.slice (if m=l then A else A.map (·.add (l*sz))) (h-l) (m-l):=by
 cases x<;>simp only [Ij,reduceCtorEq]at h
 simp only [Option.map_eq_some_iff]at h
 obtain⟨⟨l,h1,m⟩,hb,rfl⟩:=h
 exact⟨_,_,_,l,h1,m,rfl,hb,rfl⟩
theorem GA{P:Program}{t:TypeId}(h:s7 P t=some true):P.underlying t=some .string:=by
 unfold s7 at h
 split at h
 ·assumption
 ·cases h
 cases h
theorem yC{bs:List (Nat×Option ak)}{nm m:Nat}{t:TypeId}{x y:V}{q:cZ}{args:List V}{sh:Sh}{mk:Option V}{wr:Option (Nat×ak)}(h:kT C bs nm m t x y=.df q args sh mk none wr):False:=by
 unfold kT at h
 split at h
 ·split at h
  ·split at h
   ·split at h<;>cases h
   cases h
  cases h
 cases h
def OG(ρ:List Value)(α:Nat→AV)(n sz:Nat)(c:List V):Prop:=0<sz∧∃ A len cap,(α n).h=.slice A len cap∧((ah ρ α c).flatMap ae).length=len*sz∧(0<len→A.isSome=true)
def Fv(ρ:List Value)(α:Nat→AV)(bs:List (Nat×Option ak)):Prop:=∀ (n sz:Nat) (c:List V) (e:TypeId),kX bs n=some (c,e,sz)→OG ρ α n sz c
theorem yd(hI:aF w0 ps T ρ s a W α)(op:Op)(vs:List V):Fv ρ α (s.ja op vs):=by
 intro n sz c e h
 unfold S.ja at h
 split at h
 ·obtain⟨k,hn,hk⟩:=ee h
  have:=hI.lens n _ hn
  rcases hk with rfl|rfl<;>exact this
 obtain⟨k,hn,hk⟩:=ee h
 have:=(hI.rows n _ hn).2.len
 rcases hk with rfl|rfl<;>exact this
theorem lK{bs:List (Nat×Option ak)}{s' i':V}{sz o':Nat}{q:cZ}{args:List V}{sh:Sh}{mk:Option V}{new:Option ak}{wr:Option (Nat×ak)}{v:Value}(hL:Fv ρ α bs)(h:ft bs s' i' sz o'=.df q args sh mk new wr)(hrel:q.rel C ρ α args v) :
 mk=some (.ep s' i' sz o')∧∃ ad n c k j,s'.den ρ α=.slice (some ad) n c∧i'.den ρ α=.int k j∧0≤j∧j<n:=by
 unfold ft at h
 split at h
 ·split at h
  ·rename_i c e sz' hrow
   split at h
   ·rename_i hs
    subst hs
    injection h with h1 h2 h3 h4
    subst h1;subst h2;subst h4
    have hb:jl (ae ((V.cat c).den ρ α)).length sz' (i'.den ρ α)∧_:=hrel
    obtain⟨hb,_⟩:=hb
    unfold jl at hb
    split at hb
    ·rename_i k j hi
     simp only [V.den,ae]at hb
     obtain⟨h0,A,len,cap,h5,h6,h7⟩:=hL _ _ _ _ hrow
     rw [h6,Nat.mul_div_cancel _ h0]at hb
     obtain⟨ad,rfl⟩:=Option.isSome_iff_exists.1 (h7 ab)
     exact⟨rfl,ad,len,cap,k,j,by simp only [V.den];exact h5,by assumption,hb.1,hb.2⟩
    exact hb.elim
   cases h
  cases h
 injection h with h1 h2 h3 h4
 subst h1;subst h2;subst h4
 obtain⟨hbnd,_⟩:=hrel
 obtain⟨ad,n',c',k',j,hs',hi',h0,h1⟩:=zT hbnd
 exact⟨rfl,ad,n',c',k',j,hs',hi',h0,h1⟩
theorem yx{b:Bool}{n:Nat}{ds:List V}{p:Nat}{q:cZ}{args:List V}{sh:Sh}{mk:Option V}{new:Option ak}{wr:Option (Nat×ak)}(h:Cm b n ds p=.df q args sh mk new wr):False:=by
 unfold Cm at h
 split at h
 ·cases h
 split at h<;>cases h
theorem Cb{vs:List V}{s' i':V}{sz o' n:Nat}{b:Bool}{q:cZ}{args:List V}{sh:Sh}{mk:Option V}{new:Option ak}{wr:Option (Nat×ak)}{v:Value}(hI:aF w0 ps T ρ s a W α)(hKf:Kf C W)(h:j9 (cK s.hp vs) b n s' i' sz o'=.df q args sh mk new wr)(hrel:q.rel C ρ α args v) :
 mk=none∧∃ ad len c k j,s'.den ρ α=.slice (some ad) len c∧i'.den ρ α=.int k j∧((b=false∧W.cell? (ad.add (j.toNat*sz+o'))=some v)∨(b=true∧∃ cs:Array Value,v=.agg cs∧cs.size=n∧Cells W (ad.add (j.toNat*sz+o')) cs)):=by
 unfold j9 at h
 split at h
 ·split at h
  ·rename_i c e sz' hrow
   split at h
   ·rename_i hs
    subst hs
    split at h
    ·exact(yx h).elim
    split at h
    ·rename_i hb
     injection h with h1 h2 h3 h4
     subst h1;subst h2;subst h4
     have hr:jl (ae ((V.cat c).den ρ α)).length sz' (i'.den ρ α)∧idxOf (i'.den ρ α)*sz'+o'+n≤(ae ((V.cat c).den ρ α)).length∧v=.agg ((ae ((V.cat c).den ρ α)).drop (idxOf (i'.den ρ α)*sz'+o') |>.take n).toArray:=hrel
     obtain⟨hbd,hlt,rfl⟩:=hr
     obtain⟨kk,hn,hk⟩:=ee hrow
     obtain⟨ad,len,cap,k,j,g1,g2,g3,g4,g5,g6⟩:=wo hI hn hk hbd
     rw [g2]at hlt ⊢
     simp only [V.den,ae,idxOf]at hlt
     exact⟨rfl,ad,len,cap,k,j,g1,rfl,.inr ⟨hb,(((ah ρ α c).flatMap ae).drop (j.toNat*sz'+o') |>.take n).toArray,rfl,by simp only [List.size_toArray,List.length_take,List.length_drop];omega,Rd.m9 g6 hlt⟩⟩
    rename_i hb
    injection h with h1 h2 h3 h4
    subst h1;subst h2;subst h4
    have hr:jl (ae ((V.cat c).den ρ α)).length sz' (i'.den ρ α)∧(ae ((V.cat c).den ρ α))[idxOf (i'.den ρ α)*sz'+o']?=some v:=hrel
    obtain⟨hbd,hcell⟩:=hr
    obtain⟨kk,hn,hk⟩:=ee hrow
    obtain⟨ad,len,cap,k,j,g1,g2,g3,g4,g5,g6⟩:=wo hI hn hk hbd
    rw [g2]at hcell ⊢
    simp only [V.den,ae,idxOf]at hcell
    refine⟨rfl,ad,len,cap,k,j,g1,rfl,.inl ⟨af hb,?_⟩⟩
    obtain⟨ad',e',hcl⟩:=Rd.in g6 (List.getElem?_eq_some_iff.1 hcell).1
    cases e'
    exact hcl _ _ hcell
   cases h
  cases h
 split at h
 ·rename_i hb
  injection h with h1 h2 h3 h4
  subst h1;subst h2;subst h4
  obtain⟨hbnd,cells,hc,hlt,rfl⟩:=hrel
  have hR:=hKf _ _ _ hc
  obtain⟨ad,n',c',k',j,hs',hi',h0,h1⟩:=zT hbnd
  rw [hs']at hR
  replace hR:=hR.1
  have hcell:=Rd.m9 hR (i:=idxOf (i'.den ρ α)*sz+o') (n:=n) hlt
  rw [hi']at hcell hlt ⊢
  exact⟨rfl,ad,n',c',k',j,hs',rfl,.inr ⟨hb,_,rfl,by simp [idxOf]at hlt ⊢;omega,hcell⟩⟩
 rename_i hb
 injection h with h1 h2 h3 h4
 subst h1;subst h2;subst h4
 obtain⟨hbnd,cells,hc,hcell⟩:=hrel
 have hR:=hKf _ _ _ hc
 obtain⟨ad,n',c',k',j,hs',hi',h0,h1⟩:=zT hbnd
 rw [hs']at hR
 replace hR:=hR.1
 obtain⟨ad',e,hcl⟩:=Rd.in hR (List.getElem?_eq_some_iff.1 hcell).1
 cases e
 rw [hi']at hcell ⊢
 exact⟨rfl,ad,n',c',k',j,hs',rfl,.inl ⟨af hb,hcl _ _ hcell⟩⟩
def ue(ρ:List Value)(α:Nat→AV)(v:Value):Option V→Value
 | none=>v
 | some e=>e.den ρ α
theorem rC{bs:List (Nat×Option ak)}{nm m:Nat}{fr:Bool}{t:TypeId}{x y:V}{q:cZ}{args:List V}{sh:Sh}{mk:Option V}{new:Option ak}{wr:Option (Nat×ak)}(h:kU C bs nm m fr t x y=.df q args sh mk new wr):∃ e sz by' z src,eh C.P t=some e∧aT C.P e=some sz∧bytesOf C.P e=some by'∧zeroOf C.P e=some z∧ew C.P bs [t] [y]=some [src]∧0<sz∧z.cells.size=sz∧by'≤1000000∧q=.appx sz by' fr src∧args=[x,y]∧sh=.any∧mk=some (.row nm)∧new=some ⟨[.x m []],e,if fr then .row sz else .ext sz⟩∧wr=none:=by
 unfold kU at h
 split at h
 ·rename_i e he
  split at h
  ·rename_i sz by' z h1 h2 h3
   split at h
   ·rename_i src hsrc
    split at h
    ·rename_i hc
     cases h
     exact⟨e,sz,by',z,src,he,h1,h2,h3,hsrc,hc.1,hc.2.1,hc.2.2,rfl,rfl,rfl,rfl,rfl,rfl⟩
    cases h
   cases h
  cases h
 cases h
theorem yD{bs:List (Nat×Option ak)}{nm m:Nat}{fr:Bool}{t:TypeId}{x y:V}{q:cZ}{args:List V}{sh:Sh}{mk:Option V}{wr:Option (Nat×ak)}(h:kU C bs nm m fr t x y=.df q args sh mk none wr):False:=by
 obtain⟨_,_,_,_,_,_,_,_,_,_,_,_,_,_,_,_,_,h,_⟩:=rC h
 cases h
theorem D6{bs:List (Nat×Option ak)}{m:Nat}{g:FuncId}{ts:List TypeId}{args' cap:List V}{q:cZ}{args:List V}{sh:Sh}{mk:Option V}(h:kV C bs nm m g ts args' cap=.df q args sh mk none none):False:=by
 unfold kV at h
 split at h
 ·split at h
  ·split at h<;>cases h
  cases h
 cases h
theorem Jk{sh0:List Sh}{q:cZ}{args:List V}{sh:Sh}{mk:Option V}{vs:List V}(hC:C.Ok)(hps:me C w0 ps)(hvs:o.op.operands.toList.mapM s.ev=some vs){bs:List (Nat×Option ak)}(hbs:bX o.op=false→∃ vv,bs=cK s.hp vv)(hL:Fv ρ α bs)(h:gj C sh0 nm o.op vs bs=.df q args sh mk none none)(hI:aF w0 ps T ρ s a W α){v:Value}(hrel:q.rel C ρ α args v)
 (hK:∀ W',Below W.heap.size W W'→K (a.put o.dst (ue ρ α v mk)) W'):o.wp C.P a W K Q:=by
 have he:=cN hI.good hI.fm hvs
 have hKf:Kf C W:=hI.fact hps.1
 have hrefl:=Below.refl W.heap.size W
 generalize hop:o.op=op at *
 unfold gj at h
 split at h
 ·cases h
 ·cases h
 ·split at h<;>cases h
 ·split at h
  ·cases h
  split at h<;>cases h
 ·split at h
  ·cases h
  ·split at h<;>cases h
  cases h
 ·split at h
  ·split at h<;>cases h
  ·split at h<;>cases h
  cases h
 ·-- load of an element
  rename_i s' i' sz o'
  simp [Op.operands,ah,V.den]at he
  split at h
  ·rename_i b n hr hs
   obtain⟨vv,hbv⟩:=hbs rfl
   rw [hbv]at h
   obtain⟨rfl,ad,len,cap,kk,j,hs',hi',hb⟩:=Cb hI hKf h hrel
   rw [hs',hi']at he
   rcases hb with ⟨rfl,hcell⟩|⟨rfl,cs,rfl,hsz,hcells⟩
   ·exact cx hop he hr hcell (hK W hrefl)
   exact eF hop he hr hcells (by rw [hs,hsz]) (hK W hrefl)
  cases h
 ·split at h
  ·split at h<;>cases h
  cases h
 ·cases h
 ·split at h<;>cases h
 ·-- fieldAddr of an element
  rename_i s' i' sz o'
  simp [Op.operands,ah,V.den]at he
  split at h
  ·rename_i d hd
   obtain⟨rfl,ad,len,cap,kk,j,hs',hi',h0,h1⟩:=lK hL h hrel
   rw [hs',hi']at he
   have hk:=hK W hrefl
   simp only [ue,V.den,hs',hi',zp]at hk
   refine tk hop he hd ?_
   simp only [jO,Nat.add_assoc]
   exact hk
  cases h
 ·split at h
  ·split at h
   ·split at h<;>cases h
   ·split at h<;>cases h
   cases h
  cases h
 ·split at h
  ·split at h
   ·split at h<;>cases h
   cases h
  cases h
 ·split at h<;>cases h
 ·split at h
  ·split at h
   ·split at h<;>cases h
   cases h
  cases h
 ·cases h
 ·-- indexAddr of a slice
  simp [Op.operands,ah]at he
  split at h
  ·rename_i e hsl
   split at h
   ·rename_i sz hsz
    obtain⟨rfl,ad,len,cap,kk,j,hs',hi',h0,h1⟩:=lK hL h hrel
    have hk:=hK W hrefl
    simp only [V.den]at hs'
    simp only [ue,V.den,hs',hi',zp]at hk
    refine fj hop (he.1.trans hs') (he.2.trans hi') (aV hsl) h0 h1 hsz rfl ?_
    exact hk
   cases h
  cases h
 ·-- indexAddr of a row
  simp [Op.operands,ah]at he
  split at h
  ·rename_i e hsl
   split at h
   ·rename_i sz hsz
    obtain⟨rfl,ad,len,cap,kk,j,hs',hi',h0,h1⟩:=lK hL h hrel
    have hk:=hK W hrefl
    simp only [V.den]at hs'
    simp only [ue,V.den,hs',hi',zp]at hk
    refine fj hop (he.1.trans hs') (he.2.trans hi') (aV hsl) h0 h1 hsz rfl ?_
    exact hk
   cases h
  cases h
 ·-- store into a row
  split at h
  ·split at h
   ·split at h<;>cases h
   split at h<;>cases h
  cases h
 ·split at h
  ·split at h
   ·split at h<;>cases h
   ·split at h
    ·split at h<;>cases h
    cases h
   cases h
  cases h
 ·split at h<;>cases h
 ·split at h<;>cases h
 ·-- binOp
  simp [Op.operands,ah]at he
  split at h
  ·split at h
   ·split at h
    ·rename_i hc
     injection h with h1 h2 h3 h4
     subst h1;subst h2;subst h3;subst h4
     obtain⟨b,hb,fx,fy,rfl⟩:=hrel
     rw [List.take_left' hc.2.1]at hb fx
     rw [List.drop_left' hc.2.1]at hb fy
     exact rT (neq:=false) hop he.1 he.2 (by assumption) (by assumption) hc.1 fx fy hb (hK W hrefl)
    cases h
   ·split at h
    ·rename_i hc
     injection h with h1 h2 h3 h4
     subst h1;subst h2;subst h3;subst h4
     obtain⟨b,hb,fx,fy,rfl⟩:=hrel
     rw [List.take_left' hc.2.1]at hb fx
     rw [List.drop_left' hc.2.1]at hb fy
     exact rT (neq:=true) hop he.1 he.2 (by assumption) (by assumption) hc.1 fx fy hb (hK W hrefl)
    cases h
   cases h
  ·split at h
   ·rename_i hsl
    cases h
    obtain⟨A,n,c,hx,rfl⟩:=hrel
    exact bi (y3 (neq:=false) hop (he.1.trans hx) (by simpa [V.den]using he.2) (aV hsl)) (hK W hrefl)
   ·rename_i hsl
    cases h
    obtain⟨A,n,c,hx,rfl⟩:=hrel
    exact bi (y3 (neq:=true) hop (he.1.trans hx) (by simpa [V.den]using he.2) (aV hsl)) (hK W hrefl)
   cases h
  split at h
  ·rename_i hbt
   obtain⟨rfl,rfl,rfl,rfl⟩:=wD h
   exact bi (yR hop he.1 he.2 hbt hrel) (hK W hrefl)
  obtain⟨rfl,rfl,rfl,rfl⟩:=wD h
  exact bi (Cu hop he.1 he.2 hrel) (hK W hrefl)
 ·simp [Op.operands,ah]at he
  obtain⟨rfl,rfl,rfl,rfl⟩:=rX h
  exact bi (Cz hop he hrel) (hK W hrefl)
 ·simp [Op.operands,ah]at he
  obtain⟨rfl,rfl,rfl,rfl⟩:=rX h
  exact bi (Cy hop he hrel) (hK W hrefl)
 ·simp [Op.operands,ah]at he
  split at h
  ·rename_i hs hd
   obtain⟨rfl,rfl,rfl,rfl⟩:=rX h
   exact bi (yS hop he hs hd hrel) (hK W hrefl)
  cases h
 ·-- a slice of a row
  unfold oG at h
  split at h
  ·split at h<;>cases h
  cases h
 ·-- slice
  rename_i bs _
  unfold rG at h
  split at h
  ·split at h
   ·split at h
    ·split at h<;>cases h
    cases h
   cases h
  ·split at h
   ·split at h
    ·split at h<;>cases h
    cases h
   cases h
  split at h
  ·rename_i hlt
   injection h with h1 h2 h3 h4
   subst h1;subst h2;subst h3;subst h4
   obtain⟨x,r,hx,ho,hr⟩:=wH he hrel
   obtain⟨s',l1,h1,m1,rfl,hm,hb,rfl⟩:=Ka hr
   exact bi (EW hop hx (GA hlt) ho hm hb) (hK W hrefl)
  ·rename_i hlt
   split at h
   ·rename_i sz hsz
    injection h with h1 h2 h3 h4
    subst h1;subst h2;subst h3;subst h4
    obtain⟨x,r,hx,ho,hr⟩:=wH he hrel
    obtain⟨A,len,cap,l1,h1,m1,rfl,hb,rfl⟩:=Ik hr
    obtain⟨e,he1,he2⟩:=Option.bind_eq_some_iff.1 hsz
    exact bi (iF hop hx (aV he1) he2 ho hb) (hK W hrefl)
   cases h
  cases h
 ·cases h
 ·split at h
  ·split at h
   ·split at h<;>cases h
   cases h
  cases h
 ·split at h
  ·split at h
   ·split at h
    ·cases h
    split at h
    ·cases h
    split at h<;>cases h
   cases h
  cases h
 ·-- call
  rename_i c
  have hargs:∀ b,c.callee=.builtin b→c.args.map a.eval=(ah ρ α vs).toArray:=fun b hb=>by
   rw [← he]
   exact Array.ext' (by simp [Op.operands,Call.operands,hb])
  split at h
  ·split at h
   ·split at h
    ·split at h
     ·exact(yD h).elim
     exact(yC h).elim
    cases h
   cases h
  ·rename_i n hcal
   have ha:=hargs _ hcal
   split at h
   ·rename_i c' e sz hlt hrow
    injection h with h1 h2 h3 h4
    subst h1;subst h2;subst h3;subst h4
    have hv:v=.int .i64 ((ae ((V.cat c').den ρ α)).length / sz:Nat):=hrel
    obtain⟨h0,hh⟩:=hL _ _ _ _ hrow
    have hlen:DK false ((α n).h)=some v:=by
     rw [hv]
     simp only [V.den,ae]
     obtain⟨A,len,cap,h5,h6,_⟩:=hh
     rw [h5,h6,Nat.mul_div_cancel _ h0];rfl
    exact bi (qm hop hcal hlt (by rw [ha];simp [ah,V.den]) hlen) (hK W hrefl)
   cases h
  ·rename_i x hcal
   have ha:=hargs _ hcal
   split at h
   ·rename_i str hstr
    split at h
    ·cases h
    obtain⟨rfl,rfl,rfl,rfl⟩:=rX h
    exact bi (qm hop hcal hstr (by rw [ha];simp [ah,V.den]) hrel) (hK W hrefl)
   cases h
  ·rename_i x hcal
   have ha:=hargs _ hcal
   split at h
   ·rename_i hstr
    split at h
    ·cases h
    obtain⟨rfl,rfl,rfl,rfl⟩:=rX h
    exact bi (wC hop hcal hstr (by rw [ha];simp [ah,V.den]) hrel) (hK W hrefl)
   cases h
  ·rename_i x y hcal
   have ha:=hargs _ hcal
   obtain⟨rfl,rfl,rfl,rfl⟩:=wD h
   exact bi (Cw hop hcal (by rw [ha];simp [ah,V.den]) hrel) (hK W hrefl)
  ·rename_i x y hcal
   have ha:=hargs _ hcal
   obtain⟨rfl,rfl,rfl,rfl⟩:=wD h
   exact bi (Cv hop hcal (by rw [ha];simp [ah,V.den]) hrel) (hK W hrefl)
  ·-- a function
   rename_i f g cap args' hcal
   split at h
   ·rename_i hcap
    unfold mN at h
    split at h
    ·rename_i sh' rw' hsh hrw hen
     split at h
     ·rename_i hsls
      injection h with h1 h2 h3 h4
      subst h1;subst h2;subst h3;subst h4
      obtain⟨vv,hbv⟩:=hbs (by simp [bX,hcal])
      rw [hbv]at hrw hrel
      obtain⟨K',as',ha,hR,hK',_⟩:=Kq hI hKf hrw hrel
      obtain⟨h5,h6⟩:=fO hI hKf hrw ha
      have hcall:=hC.r K' g as' v W hR h6 hK'
      rw [h5]at hcall
      have hcap':cap=[]:=af hcap
      subst hcap'
      simp only [Op.operands,Call.operands,hcal,ah,V.den]at he
      simp at he
      obtain⟨h7,h8⟩:=he
      obtain⟨cal,ar,at'⟩:=c
      simp only at hcal h8
      subst hcal
      have hsl0:(C.sh g).ti []=[]:=by unfold Cx.sh;rw [hsh];exact hsls
      refine iM hop h7 (vs:=(ah ρ α args').toArray) ?_ (de hen _ _) (R:=fun u W'=>u=v∧Below W.heap.size W W') (hcall.mono fun e W' ⟨hb,hdr,he,_⟩=>⟨v,by rw [he,vG _ _ _ _ hsl0],rfl,hb⟩) ?_
      ·exact Array.ext' (af h8)
      rintro u W' ⟨rfl,hb⟩
      exact hK _ hb
     ·split at h<;>cases h
     cases h
    cases h
   exact(D6 h).elim
  cases h
 ·split at h
  ·split at h
   ·split at h<;>split at h<;>cases h
   cases h
  cases h
 cases h
theorem H9{q q':cZ}{f:Value→Option Value}{x:V}{args:List V}{sh:Sh}{mk:Option V}{new:Option ak}{wr:Option (Nat×ak)}(h:H8 q f x=.df q' args sh mk new wr):new=none∧wr=none:=by
 unfold H8 at h
 repeat' split at h
 all_goals (cases h;try exact⟨rfl,rfl⟩)
theorem Ia{q q':cZ}{f:Value→Value→Option Value}{x y:V}{args:List V}{sh:Sh}{mk:Option V}{new:Option ak}{wr:Option (Nat×ak)}(h:IU q f x y=.df q' args sh mk new wr):new=none∧wr=none:=by
 unfold IU at h
 repeat' split at h
 all_goals (cases h;try exact⟨rfl,rfl⟩)
theorem lW{bs:List (Nat×Option ak)}{s i:V}{sz o:Nat}{q:cZ}{args:List V}{sh:Sh}{mk:Option V}{new:Option ak}{wr:Option (Nat×ak)}(h:ft bs s i sz o=.df q args sh mk new wr):new=none∧wr=none:=by
 unfold ft at h
 repeat' split at h
 all_goals (cases h;try exact⟨rfl,rfl⟩)
theorem um{bs:List (Nat×Option ak)}{b:Bool}{n:Nat}{s i:V}{sz o:Nat}{q:cZ}{args:List V}{sh:Sh}{mk:Option V}{new:Option ak}{wr:Option (Nat×ak)}(h:j9 bs b n s i sz o=.df q args sh mk new wr):new=none∧wr=none:=by
 unfold j9 at h
 repeat' split at h
 all_goals first|exact(yx h).elim|(cases h;try exact⟨rfl,rfl⟩)
theorem Ee{t:TypeId}{lo hi mx:Bool}{x:V}{bs:List V}{q:cZ}{args:List V}{sh:Sh}{mk:Option V}{new:Option ak}{wr:Option (Nat×ak)}(h:rG C t lo hi mx x bs=.df q args sh mk new wr):new=none∧wr=none:=by
 unfold rG at h
 repeat' split at h
 all_goals (cases h;try exact⟨rfl,rfl⟩)
theorem Jm{sh:List Sh}{nm:Nat}{op:Op}{vs:List V}{bs:List (Nat×Option ak)}{q:cZ}{args:List V}{sh':Sh}{mk:Option V}{new:Option ak}{wr:Option (Nat×ak)}(h:gj C sh nm op vs bs=.df q args sh' mk new wr)(hnw:¬ (new=none∧wr=none)) :
 (∃ t x y n i sz o v c e k,op=.store t x y∧vs=[.ep (.row n) i sz o,v]∧k6 bs n=some (c,e,sz)∧aT C.P t=some k∧v.cells.length=k∧0<k∧pN sh v.cells=true∧q=.rset sz o∧args=.cat c::i::v.cells∧mk=some (.k undef)∧new=none∧wr=some (n,⟨[.x sh.length []],e,.row sz⟩)) ∨
 (∃ c t x y,op=.call c∧c.callee=.builtin .append∧c.argTypes.toList=[t,t]∧vs=[x,y]∧kT C bs nm sh.length t x y=.df q args sh' mk new wr) ∨
 (∃ t xo lo hi mx n as',op=.slice t xo lo hi mx∧vs=.row n::as'∧oG C bs nm sh.length t lo.isSome hi.isSome mx.isSome n as'=.df q args sh' mk new wr) ∨
 (∃ c t x y,op=.call c∧c.callee=.builtin .append∧c.argTypes.toList=[t,t]∧vs=[x,y]∧kU C bs nm sh.length (Nn C c) t x y=.df q args sh' mk new wr) ∨
 (∃ c f g cap as',op=.call c∧c.callee=.value f∧vs=.f (.func g) [] cap::as'∧cap.isEmpty=true∧mN C bs nm sh.length g c.argTypes.toList as'=.df q args sh' mk new wr) ∨
 (∃ c f g cap as',op=.call c∧c.callee=.value f∧vs=.f (.func g) [] cap::as'∧kV C bs nm sh.length g c.argTypes.toList as' cap=.df q args sh' mk new wr) ∨
 (∃ t xo yo x y e sz z by',op=.makeSlice t xo yo∧vs=[x,y]∧eh C.P t=some e∧aT C.P e=some sz∧zeroOf C.P e=some z∧bytesOf C.P e=some by'∧0<sz∧q=.mks z sz by'∧args=[x,y]∧sh'=.any∧mk=some (.row nm)∧new=some ⟨[.x sh.length []],e,.row sz⟩∧wr=none):=by
 unfold gj at h
 split at h
 case h_19 =>
  rename_i t xo yo n i sz o v
  split at h
  ·rename_i c e sz' k hrow hs
   split at h
   ·split at h<;>cases h
   split at h
   ·rename_i hc
    obtain⟨rfl,h2,h3,h4⟩:=hc
    cases h
    exact .inl ⟨t,xo,yo,n,i,sz',o,v,c,e,k,rfl,rfl,hrow,hs,h2,h3,h4,rfl,rfl,rfl,rfl,rfl⟩
   cases h
  cases h
 case h_27=>exact .inr (.inr (.inl ⟨_,_,_,_,_,_,_,rfl,rfl,h⟩))
 case h_32 =>
  rename_i c
  split at h
  ·rename_i x y hcal
   split at h
   ·rename_i t t' hts
    split at h
    ·rename_i htt
     subst htt
     split at h
     ·exact .inr (.inr (.inr (.inl ⟨c,t,_,_,rfl,hcal,hts,rfl,h⟩)))
     exact .inr (.inl ⟨c,t,_,_,rfl,hcal,hts,rfl,h⟩)
    cases h
   cases h
  case h_7 =>
   rename_i hcal
   split at h
   ·rename_i hcap
    exact .inr (.inr (.inr (.inr (.inl ⟨c,_,_,_,_,rfl,hcal,rfl,hcap,h⟩))))
   exact .inr (.inr (.inr (.inr (.inr (.inl ⟨c,_,_,_,_,rfl,hcal,rfl,h⟩)))))
  all_goals (exfalso;(repeat' split at h)<;>first|exact hnw (H9 h)|exact hnw (Ia h)|(cases h;done)|(cases h;exact hnw ⟨rfl,rfl⟩))
 case h_33 =>
  split at h
  ·rename_i e hsl
   split at h
   ·rename_i sz z by' hsz hz hb
    split at h
    ·split at h<;>cases h
    split at h
    ·rename_i h0
     cases h
     exact .inr (.inr (.inr (.inr (.inr (.inr ⟨_,_,_,_,_,e,sz,z,by',rfl,rfl,hsl,hsz,hz,hb,h0,rfl,rfl,rfl,rfl,rfl,rfl⟩)))))
    cases h
   cases h
  cases h
 all_goals (exfalso;(repeat' split at h)<;>first|exact hnw (H9 h)|exact hnw (Ia h)|exact hnw (lW h)|exact hnw (um h)|exact hnw (Ee h)|(cases h;done)|(cases h;exact hnw ⟨rfl,rfl⟩))
theorem Bw{xs tl cs:List Value}(h:cs.length≤tl.length):cO (xs++tl).toArray xs.length cs.toArray=(xs++cs++tl.drop cs.length).toArray:=by
 unfold cO
 simp
theorem O9{args:Array Operand}{f:Operand→Value}{x y:Value}(h:args.map f=#[x,y]):∃ p q,args=#[p,q]∧f p=x∧f q=y:=by
 have h1:args.size=2:=by have:=congrArg Array.size h;simpa using this
 refine⟨args[0],args[1],?_,?_,?_⟩
 ·apply Array.ext
  ·simp [h1]
  intro i hi hi2
  have:i=0∨i=1:=ab
  rcases this with rfl|rfl<;>rfl
 ·have:=congrArg (fun a=>a[0]?) h;simpa [h1]using this
 ·have:=congrArg (fun a=>a[1]?) h;simpa [h1]using this
theorem J0{sh0:List Sh}{t:TypeId}{xo yo:Operand}{n sz off k:Nat}{i vv:V}{c:List V}{e:TypeId}{v:Value}(hsh:sh0<+:s.sh)(hop:o.op=.store t xo yo)(hx:a.eval xo=zp ((α n).h) (i.den ρ α) sz off)(hy:a.eval yo=vv.den ρ α)(hrow:s.hp[n]?=some (some ⟨c,e,.row sz⟩))(hs:aT C.P t=some k)(hk:vv.cells.length=k)(hk0:0<k)(hone:pN sh0 vv.cells=true)
 (hI:aF w0 ps T ρ s a W α) (hv:ρ[sh0.length]?=some v) (hrel:(cZ.rset sz off).rel C ρ α (.cat c::i::vv.cells) v) (hw:aW s nm (.k undef) none (some (n,⟨[.x sh0.length []],e,.row sz⟩))=true) (hK:∀ a' W',Inv w0 ps T ρ (s.dl nm o.dst (.k undef) none (some (n,⟨[.x sh0.length []],e,.row sz⟩))) a' W'→K a' W'):o.wp C.P a W K Q:=by
 have hr:jl (ae ((V.cat c).den ρ α)).length sz (i.den ρ α)∧off+vv.cells.length≤sz∧v=.agg ((ae ((V.cat c).den ρ α)).take (idxOf (i.den ρ α)*sz+off)++ah ρ α vv.cells++(ae ((V.cat c).den ρ α)).drop (idxOf (i.den ρ α)*sz+off+vv.cells.length)).toArray:=hrel
 obtain⟨hbd,hlt,rfl⟩:=hr
 refine yN (sh0:=sh0) hop hx hy hrow hs hk hk0 (qj hI.good hsh α hone) hI hbd hlt ?_ hw hK
 simp only [V.den,ae]at hv
 simp [ah,V.den,List.getD_eq_getElem?_getD,hv,ae]
theorem wK{α:Type}(l1:List α)(x:α)(l2:List α):List.Sublist (l1++l2) (l1++(x::l2)):=(List.Sublist.refl _).append (List.sublist_cons_self _ _)
theorem Bz{W:World}{sz:Nat}{t e:TypeId}{x:Arg}(hsl:C.P.underlying t=some (.slice e))(h0:0<sz)(hsz:x.sz=sz)(hrd:x.rd W)(hone:∀ u∈x.cells,u.oneCell'=true):∃ m,Src C.P sz t x.v m x.cells W∧x.cells.length=m*sz:=by
 unfold Arg.rd at hrd
 split at hrd
 ·rename_i A m c hv
  rw [hsz]at hrd
  rw [hv]
  replace hrd:=hrd.1
  cases A with
  | none =>
   have hm:m=0:=by
    rcases Nat.eq_zero_or_pos m with h|h
    ·exact h
    obtain⟨ad,e,_⟩:=hrd.2 h
    cases e
   subst hm
   have hc:x.cells=[]:=List.eq_nil_of_length_eq_zero (by simpa using hrd.1)
   exact⟨0,by rw [hc];exact Src.ofNil W hsl c,by rw [hc];simp⟩
  | some ad =>
   refine⟨m,Src.ofSlice W hsl ad m c x.cells hrd.1 (fun j u hu=>?_) hone,hrd.1⟩
   obtain⟨ad',e',hcl⟩:=Rd.in hrd (List.getElem?_eq_some_iff.1 hu).1
   cases e'
   exact hcl j u hu
 omega
theorem BN{t tx e:TypeId}{xo yo:Operand}{x pc:V}{vs cc:List V}{b5:Option Nat}{yv:Value}{cells:List Value}{sz by' m:Nat}{z:Value}(hop:o.op=.call { callee:=.builtin .append,args:=#[xo,yo],argTypes:=#[t,tx] }) (hx:a.eval xo=x.den ρ α) (hyv:a.eval yo=yv) (hSrc:Src C.P sz tx yv m cells W) (hml:cells.length=m*sz)
 (hsl:eh C.P t=some e) (hsz:aT C.P e=some sz) (hby:bytesOf C.P e=some by') (hz:zeroOf C.P e=some z) (hold:BM C.P (cK s.hp vs) e sz x=some (cc,b5)) (h0:0<sz) (hzs:z.cells.size=sz) (hbyl:by'≤1000000) (hpc:pc.den ρ α=.agg cells.toArray)
 (hb1:(((ah ρ α cc).flatMap ae).length+cells.length) / sz*by'≤140737488355328) (hb2:(((ah ρ α cc).flatMap ae).length+cells.length) / sz≤140737488355328) (hI:aF w0 ps T ρ s a W α) (hnm':bh s nm)
 (hw:aW s nm (.row nm) (some ⟨cc++[pc],e,.row sz⟩) (b5.map fun n=>(n,bH))=true) (hK:∀ a' W',Inv w0 ps T ρ (s.dl nm o.dst (.row nm) (some ⟨cc++[pc],e,.row sz⟩) (b5.map fun n=>(n,bH))) a' W'→K a' W'):o.wp C.P a W K Q:=by
 have hd:ah ρ α (cc++[pc])=ah ρ α cc++[.agg cells.toArray]:=by
  rw [ea]
  simp [ah,hpc]
 have hxsα:∀ α',ah ρ α' (cc++[pc])=ah ρ α (cc++[pc])→(⟨cc++[pc],e,.row sz⟩:ak).xs ρ α'=(ah ρ α cc).flatMap ae++cells:=fun α' h=>by
  unfold ak.xs
  simp only [h,hd,List.flatMap_append,List.flatMap_cons,List.flatMap_nil,ae,List.append_nil]
 have hsub2:∀ n,(cc.length=cc.length)→n*sz / sz=n:=fun n _=>Nat.mul_div_cancel _ h0
 have fromNil:(ah ρ α cc).flatMap ae=[]→x.den ρ α=.slice none 0 0 →
  (∀ (A:AV) (W':World) (u:Value),(∀ α',α' nm=A→u=(V.row nm).den ρ α')→(∀ α',α' nm=A→(∀ n,lv s.ln n=true→α' n=α n)→ah ρ α' (cc++[pc])=ah ρ α (cc++[pc])→aU ρ α' 0 s.hp=aU ρ α 0 s.hp →
   ((A.h=.slice none 0 0∧cells=[]∧W'=W)∨∃ cap,A.h=.slice (some ⟨A.b,0,none⟩) m cap∧(cells++A.tl).length=cap*sz∧m≤cap∧cap≤maxLen∧St w0 (⟨A.b,(cells++A.tl).toArray,e⟩::aU ρ α 0 s.hp) (dP a s T) (gZ w0 ρ α 0 s.hp++ps) W'))→K (a.put o.dst u) W')→o.wp C.P a W K Q:=by
  intro hc0 hx0 hfin
  rcases Nat.eq_zero_or_pos m with rfl|hm
  ·have hcells:cells=[]:=List.eq_nil_of_length_eq_zero (af hml)
   exact sQ hop (hx.trans hx0) hyv hSrc (aV hsl) hsz (hfin ⟨0,.slice none 0 0,[]⟩ W _ (fun α' h=>by simp only [V.den,h]) fun α' h1 _ _ _=>.inl ⟨rfl,hcells,rfl⟩)
  rw [hc0]at hb1 hb2
  simp only [List.length_nil,Nat.zero_add,hml,Nat.mul_div_cancel _ h0]at hb1 hb2
  refine je (olds:=[]) hop (hx.trans hx0) rfl ai hyv hSrc (aV hsl) hsz hz hzs hby ab hbyl (af hb1) (af hb2) hI.st fun k cap Z W' _ hS hl hcap hmax=>?_
  simp only [List.nil_append,Nat.zero_add]at hS hl hcap ⊢
  exact hfin ⟨k,.slice (some ⟨k,0,none⟩) m cap,Z⟩ W' _ (fun α' h=>by simp only [V.den,h]) fun α' h1 _ _ _=>.inr ⟨cap,rfl,hl,hcap,hmax,hS⟩
 have hch:∀ α',ah ρ α' (cc++[pc])=ah ρ α (cc++[pc])→∀ (A:AV),α' nm=A→(⟨cc++[pc],e,.row sz⟩:ak).ch ρ α' (0+nm)=(match A.h with
  | .slice (some _) _ _=>some ⟨A.b,((ah ρ α cc).flatMap ae++cells++A.tl).toArray,e⟩
  | _=>none):=fun α' h A hA=>by
  simp only [ak.ch,Nat.zero_add,hA,hxsα α' h]
  rfl
 unfold BM at hold
 split at hold
 ·-- nothing
  obtain⟨rfl,rfl⟩:[]=cc∧none=b5:=af hold
  refine fromNil rfl rfl fun A W' u hu hcase=>gR hI hnm' rfl hw hK A (fun α' h1 h2 h3 h4=>?_) hu
  rcases hcase α' h1 h2 h3 h4 with ⟨hA,hcells,rfl⟩|⟨cap,hA,hl,hcap,hmax,hS⟩
  ·refine⟨?_,h0,.inl ⟨by rw [hxsα α' h3,hcells];rfl,by rw [h1,hA]⟩⟩
   rw [gA (k:=0) hnm'.1 (by rw [hch α' h3 A h1,hA]),h4]
   exact hI.st
  refine⟨St.perm ?_ (dy (k:=0) hnm'.1 (e:=⟨A.b,(cells++A.tl).toArray,e⟩) (by rw [hch α' h3 A h1,hA];rfl)),h0,.inr ⟨m,cap,by rw [h1];exact hA,by rw [hxsα α' h3];exact hml,by rw [hxsα α' h3,h1];exact hl,hcap,hmax⟩⟩
  rw [h4];exact hS
 ·-- a row
  rename_i n
  split at hold
  ·rename_i c' e' sz' hrow
   split at hold
   ·rename_i hes
    obtain⟨rfl,rfl⟩:=hes
    obtain⟨rfl,rfl⟩:c'=cc∧some n=b5:=af hold
    have hn:=gm hrow
    have hne:n≠nm:=uc (yg hn) hnm'.1
    have hset:(s.hp.set nm (some ⟨c'++[pc],e',.row sz'⟩)).set n (some bH)=(s.hp.set n (some bH)).set nm (some ⟨c'++[pc],e',.row sz'⟩):=List.set_comm _ _ (fun h=>hne h.symm)
    have hnm2:(s.hp.set n (some bH))[nm]?=some none:=by rw [List.getElem?_set_ne hne];exact hnm'.1
    obtain⟨_,hinfo⟩:=eE hI hn
    rcases hinfo with ⟨hx0,hh⟩|⟨len,cap,hh,hl1,hl2,hlc,hcm,hmem⟩
    ·refine fromNil hx0 hh fun A W' u hu hcase=>jt hI hnm' hw hK A (fun α' h1 h2 h3 h5 h4=>?_) rfl hu
     have hsame:aU ρ α' 0 (s.hp.set n (some bH))=aU ρ α 0 s.hp:=by
      obtain⟨l1,l2,q1,q2⟩:=cy (ρ:=ρ) (α:=α') (k:=0) hn
      rw [← h4,q1,q2]
      have:(⟨c',e',.row sz'⟩:ak).ch ρ α' (0+n)=none:=by
       have e5:=h5 n _ hn
       rw [Nat.zero_add,e5]
       simp only [ak.ch,hh]
      simp only [Option.bind_some,this]
      simp [bH,ak.ch]
     rcases hcase α' h1 h2 h3 h4 with ⟨hA,hcells,rfl⟩|⟨cap,hA,hl,hcap,hmax,hS⟩
     ·refine⟨?_,h0,.inl ⟨by rw [hxsα α' h3,hcells,hx0];rfl,by rw [h1,hA]⟩⟩
      rw [hset,gA (k:=0) hnm2 (by rw [hch α' h3 A h1,hA]),hsame]
      exact hI.st
     refine⟨?_,h0,.inr ⟨m,cap,by rw [h1];exact hA,by rw [hxsα α' h3,hx0];exact hml,by rw [hxsα α' h3,h1,hx0];exact hl,hcap,hmax⟩⟩
     rw [hset]
     refine St.perm ?_ (dy (k:=0) hnm2 (e:=⟨A.b,(cells++A.tl).toArray,e'⟩) (by rw [hch α' h3 A h1,hA,hx0];rfl))
     rw [hsame];exact hS
    have hxv:a.eval xo=.slice (some ⟨(α n).b,0,none⟩) len cap:=hx.trans hh
    rw [hl1,hml,← Nat.add_mul,Nat.mul_div_cancel _ h0]at hb1 hb2
    obtain⟨l1,l2,q1,q2⟩:=cy (ρ:=ρ) (α:=α) (k:=0) hn
    have hchn:(⟨c',e',.row sz'⟩:ak).ch ρ α (0+n)=some ⟨(α n).b,((ah ρ α c').flatMap ae++(α n).tl).toArray,e'⟩:=by
     simp only [ak.ch,Nat.zero_add,hh];rfl
    have hq1:aU ρ α 0 s.hp=l1++(⟨(α n).b,((ah ρ α c').flatMap ae++(α n).tl).toArray,e'⟩::l2):=by
     rw [q1]
     simp only [Option.bind_some,hchn,Option.toList_some,List.cons_append,List.nil_append]
    have hrest:∀ α',(∀ (m:Nat) (c:ak),s.hp[m]?=some (some c)→c.ch ρ α' m=c.ch ρ α m)→aU ρ α' 0 s.hp=aU ρ α 0 s.hp→aU ρ α' 0 (s.hp.set n (some bH))=l1++l2:=by
     intro α' h5 h4
     have e1:aU ρ α 0 (s.hp.set n (some bH))=l1++l2:=by
      rw [q2];simp [bH,ak.ch]
     rw [← e1]
     refine jn fun k b hb=>?_
     rcases bD hb with ⟨rfl,rfl⟩|⟨_,hb⟩
     ·simp [bH,ak.ch]
     simpa using h5 k b hb
    by_cases hroom:len+m≤cap
    ·have hlen3:cells.length≤(α n).tl.length:=by
      have:len*sz'+m*sz'≤cap*sz':=by rw [← Nat.add_mul];exact Nat.mul_le_mul_right _ hroom
      rw [List.length_append,hl1]at hl2
      omega
     have hsp:cO ((ah ρ α c').flatMap ae++(α n).tl).toArray (len*sz') cells.toArray=((ah ρ α c').flatMap ae++cells++(α n).tl.drop cells.length).toArray:=by
      rw [← hl1];exact Bw hlen3
     have hS0:=hI.st
     rw [hq1]at hS0
     refine pQ hop hxv hyv hSrc (aV hsl) hsz hroom hS0 (qp l2 l1) ?_ fun W' hS=>?_
     ·simp only [List.size_toArray,hl2,← Nat.add_mul]
      exact Nat.mul_le_mul_right _ hroom
     refine jt hI hnm' hw hK ⟨(α n).b,.slice (some ⟨(α n).b,0,none⟩) (len+m) cap,(α n).tl.drop cells.length⟩ (fun α' h1 h2 h3 h5 h4=>⟨?_,h0,.inr ⟨len+m,cap,by rw [h1],?_,?_,hroom,hcm⟩⟩) rfl fun α' h1=>by simp only [V.den,h1]
     ·rw [hset]
      refine St.perm ?_ (dy (k:=0) hnm2 (e:=⟨(α n).b,((ah ρ α c').flatMap ae++cells++(α n).tl.drop cells.length).toArray,e'⟩) (by rw [hch α' h3 _ h1]))
      rw [hrest α' h5 h4,← hsp]
      exact hS.perm List.perm_middle
     ·rw [hxsα α' h3,List.length_append,hl1,hml,Nat.add_mul]
     rw [hxsα α' h3,h1]
     simp only [List.length_append,List.length_drop]at hl2 ⊢
     omega
    have holdc:(Builtin.firstCells sz' len (.slice (some ⟨(α n).b,0,none⟩) len cap)).run C.P W.drew=.ok ((ah ρ α c').flatMap ae).toArray W.drew:=by
     refine run_firstCells_some W.drew sz' len _ len cap _ hl1 fun j u hu=>?_
     have hrd2:=Hn hI hn
     rw [hh]at hrd2
     replace hrd2:=hrd2.1
     obtain⟨ad',e2,hcl⟩:=Rd.in hrd2 (List.getElem?_eq_some_iff.1 hu).1
     cases e2
     have:=hcl j u hu
     simpa using this
    refine je hop hxv holdc hl1 hyv hSrc (aV hsl) hsz hz hzs hby ab hbyl hb1 hb2 hI.st fun k cap' Z W' _ hS hl hcap hmax=>?_
    refine jt hI hnm' hw hK ⟨k,.slice (some ⟨k,0,none⟩) (len+m) cap',Z⟩ (fun α' h1 h2 h3 h5 h4=>⟨?_,h0,.inr ⟨len+m,cap',by rw [h1],?_,?_,hcap,hmax⟩⟩) rfl fun α' h1=>by simp only [V.den,h1]
    ·rw [hset]
     refine St.perm ?_ (dy (k:=0) hnm2 (e:=⟨k,((ah ρ α c').flatMap ae++cells++Z).toArray,e'⟩) (by rw [hch α' h3 _ h1]))
     rw [hrest α' h5 h4]
     rw [hq1]at hS
     exact hS.oW (.cons_cons _ (wK _ _ _)) (.refl _) fun _ h=>h
    ·rw [hxsα α' h3,List.length_append,hl1,hml,Nat.add_mul]
    rw [hxsα α' h3,h1];exact hl
   cases hold
  cases hold
 cases hold
theorem KX{sh0:List Sh}{t:TypeId}{xo yo:Operand}{x y:V}{vs:List V}{q:cZ}{args:List V}{sh:Sh}{mk:Option V}{new:Option ak}{wr:Option (Nat×ak)}{v:Value}(hop:o.op=.call { callee:=.builtin .append,args:=#[xo,yo],argTypes:=#[t,t] }) (hx:a.eval xo=x.den ρ α) (hy:a.eval yo=y.den ρ α) (hap:kT C (cK s.hp vs) nm sh0.length t x y=.df q args sh mk new wr)
 (hC:C.Ok) (hps:me C w0 ps) (hI:aF w0 ps T ρ s a W α) (hv:ρ[sh0.length]?=some v) (hrel:q.rel C ρ α args v) (hnm:new=none∨bh s nm) (hw:aW s nm (bx sh0.length sh mk) new wr=true) (hK:∀ a' W',Inv w0 ps T ρ (s.dl nm o.dst (bx sh0.length sh mk) new wr) a' W'→K a' W'):o.wp C.P a W K Q:=by
 have hKf:Kf C W:=hI.fact hps.1
 unfold kT at hap
 split at hap
 case h_2=>cases hap
 rename_i e hsl
 split at hap
 case h_2=>cases hap
 rename_i sz by' z hsz hby hz
 split at hap
 case h_2=>cases hap
 rename_i cc b5 src hold hsrc
 split at hap
 case isFalse=>cases hap
 rename_i hc
 obtain⟨h0,hzs,hbyl⟩:=hc
 cases hap
 have hnm':bh s nm:=hnm.resolve_left nofun
 obtain⟨xa,hargs,hxsz,hone,hb1,hb2,rfl⟩:=(hrel:∃ x,bT C ρ α [src] [y] [x]∧x.sz=sz∧zc x∧((ae ((V.cat cc).den ρ α)).length+x.cells.length) / sz*by'≤140737488355328∧((ae ((V.cat cc).den ρ α)).length+x.cells.length) / sz≤140737488355328∧v=.agg x.cells.toArray)
 obtain⟨hv1,hrd⟩:=fO hI hKf hsrc hargs
 have hyv:a.eval yo=xa.v:=by rw [hy];simpa [ah]using hv1.symm
 have hxrd:=hrd xa ai
 simp only [V.den,ae]at hb1 hb2
 obtain⟨m,hSrc,hml⟩:=Bz (C:=C) (t:=t) (aV hsl) h0 hxsz hxrd hone
 have hpc:(Io C.stc sh0.length src).den ρ α=.agg xa.cells.toArray:=by
  have h0:(V.x sh0.length []).den ρ α=.agg xa.cells.toArray:=by simp [V.den,List.getD_eq_getElem?_getD,hv]
  unfold Io
  split
  ·rename_i sz9 cs
   split
   ·have h9:=hargs.1
    rw [h9]
    simp only [V.den]
   exact h0
  exact h0
 exact BN hop hx hyv hSrc hml hsl hsz hby hz hold h0 hzs hbyl hpc (af hb1) (af hb2) hI hnm' hw hK
theorem Mn.up{w0:fB}{h:Value}{B:Nat}(hf:fV B h)(hB:w0.w.heap.size≤B):Mn w0 h:=fun ad n c e hn=>Nat.le_trans hB (hf ad n c e hn)
theorem nK{W:World}{A:Option Addr}{c sz:Nat}:Arg.rd W ⟨.slice A 0 c,sz,[]⟩:=⟨⟨ai,fun h=>absurd h ab⟩,Nat.zero_le _⟩
theorem wq{W W2:World}{ids:List Nat}{hdr:Value}{sz B:Nat}{cells:List Value}(h:Arg.rd W ⟨hdr,sz,cells⟩)(hs:bp ids W W2)(hf:fV B hdr)(hids:∀ b∈ids,b<B):Arg.rd W2 ⟨hdr,sz,cells⟩:=by
 unfold Arg.rd at h ⊢
 dsimp only at h ⊢
 split
 ·rename_i A n c
  obtain⟨h,hnc⟩:=h
  refine⟨⟨h.1,fun h0=>?_⟩,hnc⟩
  obtain⟨ad,rfl,hb,hc⟩:=h.2 h0
  have hB:=hf ad n c rfl h0
  exact((Rd.same (A:=some ad) h hs fun ad' e hm=>by
   cases e
   have:=hids _ hm
   omega).2 h0)
 rename_i hne
 split at h
 ·rename_i A n c
  exact(hne A n c rfl).elim
 exact h
theorem Iq{W:World}{A:Option Addr}{L cap l h sz:Nat}{xs:List Value}(hr:Arg.rd W ⟨.slice A L cap,sz,xs⟩)(h1:l≤h)(h2:h≤L)(h3:L≤cap):Arg.rd W ⟨.slice (if cap=l then A else A.map (·.add (l*sz))) (h-l) (cap-l),sz,(xs.drop (l*sz)).take ((h-l)*sz)⟩:=by
 have hr:Rd W sz A L xs:=hr.1
 have:=(hr.take h2).cut (k:=l) (cap:=cap) h1 ab
 refine⟨?_,ab⟩
 show Rd W sz _ _ _
 rw [List.drop_take,← Nat.sub_mul]at this
 exact this
theorem CC{B:Nat}{A:Option Addr}{L cap l h c sz:Nat}(hf:fV B (.slice A L cap))(h1:l≤h)(h2:h≤L):fV B (.slice (if cap=l then A else A.map (·.add (l*sz))) (h-l) c):=by
 intro ad n c' e hn
 injection e with e1 e2 e3
 subst e2
 split at e1
 ·exact hf ad L cap (by rw [e1]) ab
 cases A with
 | none=>cases e1
 | some ad' =>
  simp only [Option.map_some,Option.some.injEq]at e1
  subst e1
  rw [fE]
  exact hf ad' L cap rfl ab
theorem xF{L cap l h m:Nat}{lo hi:Option Value}(hb:b7 L L lo hi none=some (l,h,m))(hc:L≤cap):b7 L cap lo hi none=some (l,h,cap)∧l≤h∧h≤L:=by
 unfold b7 at hb ⊢
 simp only [Option.bind_some]at hb ⊢
 have bnd:∀ {y:Nat} {v:Value} {k:Nat},iN y v=some k→k≤y∧∀ y',y≤y'→iN y' v=some k:=fun {y v k} hk=>by
  unfold iN at hk
  split at hk
  ·rename_i kk i
   split at hk
   ·rename_i hi
    simp only [Option.some.injEq]at hk
    subst hk
    refine⟨ab,fun y' hy=>?_⟩
    unfold iN
    dsimp only
    rw [if_pos ⟨hi.1,ab⟩]
   cases hk
  cases hk
 cases hi with
 | none =>
  simp only [Option.bind_some]at hb ⊢
  cases lo with
  | none =>
   simp only [Option.bind_some,Option.some.injEq,Prod.mk.injEq]at hb ⊢
   obtain⟨rfl,rfl,rfl⟩:=hb
   exact⟨⟨rfl,rfl,trivial⟩,Nat.zero_le _,Nat.le_refl _⟩
  | some v =>
   cases hv:iN L v with
   | none=>simp [hv]at hb
   | some k =>
    simp only [hv,Option.bind_some,Option.some.injEq,Prod.mk.injEq]at hb ⊢
    obtain⟨rfl,rfl,rfl⟩:=hb
    exact⟨⟨rfl,rfl,trivial⟩,(bnd hv).1,Nat.le_refl _⟩
 | some u =>
  cases hu:iN L u with
  | none=>simp [hu]at hb
  | some q =>
   have h2:=(bnd hu).2 cap hc
   simp only [hu,h2,Option.bind_some]at hb ⊢
   cases lo with
   | none =>
    simp only [Option.bind_some,Option.some.injEq,Prod.mk.injEq]at hb ⊢
    obtain⟨rfl,rfl,rfl⟩:=hb
    exact⟨⟨rfl,rfl,trivial⟩,Nat.zero_le _,(bnd hu).1⟩
   | some v =>
    cases hv:iN q v with
    | none=>simp [hv]at hb
    | some k =>
     simp only [hv,Option.bind_some,Option.some.injEq,Prod.mk.injEq]at hb ⊢
     obtain⟨rfl,rfl,rfl⟩:=hb
     exact⟨⟨rfl,rfl,trivial⟩,(bnd hv).1,(bnd hu).1⟩
theorem Kb{sh0:List Sh}{t:TypeId}{xo:Operand}{lo hi mx:Option Operand}{n:Nat}{as':List V}{q:cZ}{args:List V}{sh:Sh}{mk:Option V}{new:Option ak}{wr:Option (Nat×ak)}{v:Value}(hop:o.op=.slice t xo lo hi mx)(he:o.op.operands.toList.map a.eval=ah ρ α (.row n::as')){bs:List (Nat×Option ak)}(hbs:∃ hp,bs=cK hp (.row n::as')∧∀ (c:List V)(sz:Nat)(e:TypeId),hp[n]?=some (some ⟨c,e,.ext sz⟩)→s.hp[n]?=some (some ⟨c,e,.ext sz⟩))
 (hpl:oG C bs nm sh0.length t lo.isSome hi.isSome mx.isSome n as'=.df q args sh mk new wr) (hI:aF w0 ps T ρ s a W α) (hv:ρ[sh0.length]?=some v) (hrel:q.rel C ρ α args v) (hnm:new=none∨bh s nm) (hw:aW s nm (bx sh0.length sh mk) new wr=true) (hK:∀ a' W',Inv w0 ps T ρ (s.dl nm o.dst (bx sh0.length sh mk) new wr) a' W'→K a' W'):o.wp C.P a W K Q:=by
 unfold oG at hpl
 split at hpl
 case h_2=>cases hpl
 rename_i c sz hex
 split at hpl
 case isFalse=>cases hpl
 rename_i hc
 obtain⟨hmx,hsz⟩:=hc
 cases hpl
 have hnm':bh s nm:=hnm.resolve_left nofun
 obtain⟨hp,rfl,hsame⟩:=hbs
 obtain⟨e,hn0⟩:=tS hex
 have hn:=hsame _ _ _ hn0
 obtain⟨l,h,m,lo',hi',hopt,hbd,rfl⟩:=hrel
 simp only [V.den,ae]at hbd hv
 obtain⟨_,h0,A,L,cap,g1,g2,g3,g4⟩:=hI.rows n _ hn
 have g2:((ah ρ α c).flatMap ae).length=L*sz:=g2
 rw [g2,Nat.mul_div_cancel _ h0]at hbd
 obtain⟨hb2,hlh,hhL⟩:=xF hbd g3
 have hslc:oM false sz lo.isSome hi.isSome mx.isSome (ah ρ α (.row n::as'))=some (.slice (if cap=l then A else A.map (·.add (l*sz))) (h-l) (cap-l)):=by
  simp only [ah,V.den,oM,g1,hmx,hopt,Option.bind_some,hb2,Option.map_some]
 rw [hop]at he
 obtain⟨x,r,hx,ho,hr⟩:=wH he hslc
 obtain⟨A',L',cap',l1,h1,m1,rfl,hb3,heq⟩:=Ik hr
 obtain⟨et,he1,he2⟩:=Option.bind_eq_some_iff.1 hsz
 refine bi (iF hop hx (aV he1) he2 ho hb3) ?_
 rw [← heq]
 have hfact:=nq hI hn
 have hxs:(⟨[.x sh0.length []],0,.ext sz⟩:ak).xs ρ α=(((ah ρ α c).flatMap ae).drop (l*sz)).take ((h-l)*sz):=by
  simp [ak.xs,ah,V.den,List.getD_eq_getElem?_getD,hv,ae]
 refine jX (b:=⟨[.x sh0.length []],0,.ext sz⟩) hI hnm' rfl hw hK ⟨0,.slice (if cap=l then A else A.map (·.add (l*sz))) (h-l) (cap-l),[]⟩ hI.st h0 ⟨_,_,_,rfl,?_,ab,fun hlt=>?_⟩ (fun W2 hW2=>?_) fun α' h1 _=>by simp only [bx,Option.getD_some,V.den,h1]
 ·rw [hxs,List.length_take,List.length_drop,g2,← Nat.sub_mul]
  exact Nat.min_eq_left (Nat.mul_le_mul_right _ ab)
 ·have:=g4 ab
  split
  ·exact this
  cases A with
  | none=>exact this
  | some _=>rfl
 rw [hxs]
 obtain⟨f1,f2⟩:=hfact W2 hW2
 rw [g1]at f1 f2
 exact⟨Iq f1 hlh hhL g3,f2.imp (fun hf=>CC hf hlh hhL) fun hf=>⟨fun W3 h3=>Iq (hf.1 W3 h3) hlh hhL g3,fun B hB=>CC (hf.2 B hB) hlh hhL⟩⟩
theorem IZ{sh0:List Sh}{t:TypeId}{xo yo:Operand}{x y:V}{vs:List V}{fr:Bool}{q:cZ}{args:List V}{sh:Sh}{mk:Option V}{new:Option ak}{wr:Option (Nat×ak)}{v:Value}(hop:o.op=.call { callee:=.builtin .append,args:=#[xo,yo],argTypes:=#[t,t] }) (hx:a.eval xo=x.den ρ α) (hy:a.eval yo=y.den ρ α) (hap:kU C (cK s.hp vs) nm sh0.length fr t x y=.df q args sh mk new wr)
 (hps:me C w0 ps) (hI:aF w0 ps T ρ s a W α) (hv:ρ[sh0.length]?=some v) (hrel:q.rel C ρ α args v) (hnm:new=none∨bh s nm) (hw:aW s nm (bx sh0.length sh mk) new wr=true) (hK:∀ a' W',Inv w0 ps T ρ (s.dl nm o.dst (bx sh0.length sh mk) new wr) a' W'→K a' W'):o.wp C.P a W K Q:=by
 have hKf:Kf C W:=hI.fact hps.1
 obtain⟨e,sz,by',z,src,hsl,hsz,hby,hz,hsrc,h0,hzs,hbyl,rfl,rfl,rfl,rfl,rfl,rfl⟩:=rC hap
 have hnm':bh s nm:=hnm.resolve_left nofun
 obtain⟨cells,xa,A,n,hxv,hKc,hA,hone0,hargs,hxsz,hone,hfr,hb1,hb2,rfl⟩:=hrel
 obtain⟨hv1,hrd⟩:=fO hI hKf hsrc hargs
 have hyv:a.eval yo=xa.v:=by rw [hy];simpa [ah]using hv1.symm
 have hxrd:=hrd xa ai
 have hRd:Rd W sz A n cells:=by have:=hKf _ _ _ hKc;rw [hxv]at this;exact this.1
 have hcl:cells.length=n*sz:=hRd.1
 have hxe:a.eval xo=.slice A n n:=hx.trans hxv
 have hres:bx sh0.length Sh.any (some (V.row nm))=.row nm:=rfl
 rw [hres]at hw hK
 obtain⟨m,hSrc,hml⟩:=Bz (C:=C) (t:=t) (aV hsl) h0 hxsz hxrd hone
 have hd:∀ α':Nat→AV,ah ρ α' [V.x sh0.length []]=[.agg (cells++xa.cells).toArray]:=fun α'=>by simp [ah,V.den,List.getD_eq_getElem?_getD,hv]
 have hxs:∀ (k:BK) (α':Nat→AV),(⟨[.x sh0.length []],e,k⟩:ak).xs ρ α'=cells++xa.cells:=fun k α'=>by simp [ak.xs,hd α',ae]
 have hsome:0<n→A.isSome=true:=fun hn=>by
  obtain⟨ad,rfl,_⟩:=hRd.2 hn
  rfl
 rcases Nat.eq_zero_or_pos m with rfl|hm
 ·-- nothing is appended
  have hcells:xa.cells=[]:=List.eq_nil_of_length_eq_zero (af hml)
  have hfr':fr=false:=by
   cases fr with
   | false=>rfl
   | true=>exact absurd hcells (hfr rfl)
  subst hfr'
  have hdone:K (a.put o.dst (.slice A n n)) W:=by
   refine jX (b:=⟨[.x sh0.length []],e,.ext sz⟩) hI hnm' rfl hw hK ⟨0,.slice A n n,[]⟩ hI.st h0 ⟨_,_,_,rfl,by rw [hxs,hcells];simpa using hcl,Nat.le_refl _,hsome⟩ (fun W2 hW2=>?_) fun α' h1 _=>by simp only [V.den,h1]
   rw [hxs,hcells,List.append_nil]
   have hK2:Kf C W2:=hI.st.pers _ (List.mem_append.2 (.inr hps.1)) W2 hW2
   refine⟨?_,.inr ⟨fun W3 h3=>?_,fun B hB=>?_⟩⟩
   ·have:=hK2 _ _ _ hKc;rw [hxv]at this;exact this
   ·have:=hps.2.1 W3 h3 _ _ _ (hA rfl);rw [hxv]at this;exact this
   ·have:=hps.2.2.1 B hB _ _ _ (hA rfl);rw [hxv]at this;exact this
  cases A with
  | some ad=>exact zo hop hxe (Nat.le_refl _) hyv hSrc (aV hsl) hsz hdone
  | none =>
   have hn0:n=0:=by
    rcases Nat.eq_zero_or_pos n with h|h
    ·exact h
    exact absurd (hsome h) ai
   subst hn0
   exact sQ hop hxe hyv hSrc (aV hsl) hsz hdone
 -- something is
 have hold:(Builtin.firstCells sz n (.slice A n n)).run C.P W.drew=.ok cells.toArray W.drew:=by
  cases A with
  | some ad =>
   refine run_firstCells_some W.drew sz n ad n n _ hcl fun j u hu=>?_
   obtain⟨ad',e2,hcl2⟩:=Rd.in hRd (List.getElem?_eq_some_iff.1 hu).1
   cases e2
   exact hcl2 j u hu
  | none =>
   have hn0:n=0:=by
    rcases Nat.eq_zero_or_pos n with h|h
    ·exact h
    exact absurd (hsome h) ai
   subst hn0
   have:cells=[]:=List.eq_nil_of_length_eq_zero (af hcl)
   subst this
   rfl
 rw [hcl,hml,← Nat.add_mul,Nat.mul_div_cancel _ h0]at hb1 hb2
 refine je (olds:=cells) hop hxe hold hcl hyv hSrc (aV hsl) hsz hz hzs hby ab hbyl hb1 hb2 hI.st fun k cap Z W' hk hS hl hcap hmax=>?_
 have hlen:(cells++xa.cells).length=(n+m)*sz:=by rw [List.length_append,hcl,hml,Nat.add_mul]
 cases fr with
 | true =>
  refine gR (b:=⟨[.x sh0.length []],e,.row sz⟩) hI hnm' rfl hw hK ⟨k,.slice (some ⟨k,0,none⟩) (n+m) cap,Z⟩ (fun α' h1 h2 h3 h4=>⟨St.perm ?_ (dy (k:=0) hnm'.1 (e:=⟨k,(cells++xa.cells++Z).toArray,e⟩) ?_),h0,.inr ⟨n+m,cap,by rw [h1],by rw [hxs];exact hlen,by rw [hxs,h1];exact hl,hcap,hmax⟩⟩) fun α' h1=>by simp only [V.den,h1]
  ·rw [h4];exact hS
  simp only [ak.ch,Nat.zero_add,h1,hxs]
 | false =>
  refine jX (b:=⟨[.x sh0.length []],e,.ext sz⟩) hI hnm' rfl hw hK ⟨0,.slice (some ⟨k,0,none⟩) (n+m) cap,[]⟩ (hS.oW (List.sublist_cons_self _ _) (.refl _) fun _ h=>h) h0 ⟨_,_,_,rfl,by rw [hxs];exact hlen,hcap,fun _=>rfl⟩ (fun W2 hW2=>?_) fun α' h1 _=>by simp only [V.den,h1]
  rw [hxs]
  refine⟨⟨?_,hcap⟩,.inl fun ad n' c' e' _=>?_⟩
  ·have hblk:=hS.at_ (List.mem_cons_self ..)
   have hnd:=hS.nodup
   have hR:Rd W' sz (some ⟨k,0,none⟩) (n+m) (cells++xa.cells):=Rd.mL hblk hlen fun j u hu=>by
    rw [Nat.zero_add]
    have:(cells++xa.cells++Z)[j]?=some u:=by rw [List.getElem?_append_left (List.getElem?_eq_some_iff.1 hu).1];exact hu
    simpa using this
   refine hR.same hW2 fun ad e' hm=>?_
   cases e'
   have:(k::bk (aU ρ α 0 s.hp) (dP a s T)).Nodup:=hnd
   exact(List.nodup_cons.1 this).1 hm
  cases e'
  exact Nat.le_trans hI.st.b5.size hk
theorem MG{sh0:List Sh}{c:Go.Call}{t t':TypeId}{n oo l cp:Nat}{y:V}{vs:List V}{q:cZ}{args:List V}{sh:Sh}{mk:Option V}{new:Option ak}{wr:Option (Nat×ak)}{v:Value}(hop:o.op=.call c)(hcal:c.callee=.builtin .append)(hat:c.argTypes.toList=[t,t'])(he:(Op.call c).operands.toList.map a.eval=ah ρ α [.sl n oo l cp,y])(hap:rB C (cK s.hp vs) nm sh0.length t t' n oo l cp y=.df q args sh mk new wr)
 (hps:me C w0 ps) (hI:aF w0 ps T ρ s a W α) (hv:ρ[sh0.length]?=some v) (hrel:q.rel C ρ α args v) (hnm:new=none∨bh s nm) (hw:aW s nm (bx sh0.length sh mk) new wr=true) (hK:∀ a' W',Inv w0 ps T ρ (s.dl nm o.dst (bx sh0.length sh mk) new wr) a' W'→K a' W'):o.wp C.P a W K Q:=by
 have hKf:Kf C W:=hI.fact hps.1
 unfold rB at hap
 split at hap
 case h_2=>cases hap
 rename_i e B src hsl hB hsrc
 split at hap
 case h_2=>cases hap
 rename_i sz by' z hsz hby hz
 split at hap
 case isFalse=>cases hap
 rename_i hc
 obtain⟨rfl,rfl,hl0,hlen,h0,hzs,hbyl⟩:=hc
 injection hap with h1 h2 h3 h4 h5 h6
 subst h1;subst h2;subst h3;subst h4;subst h5;subst h6
 obtain⟨cal,ar,at'⟩:=c
 simp only at hcal hat
 subst hcal
 have hat2:at'=#[t',t']:=by rw [← Array.toArray_toList (xs:=at'),hat]
 subst hat2
 simp only [Op.operands,Call.operands,ah]at he
 obtain⟨xo,yo,rfl,hx,hy⟩:∃ p q',ar=#[p,q']∧a.eval p=(V.sl n oo cp cp).den ρ α∧a.eval q'=y.den ρ α:=pj (Array.ext' (af he))
 have hnm':bh s nm:=hnm.resolve_left nofun
 obtain⟨xa,hargs,hxsz,hone,hne,hone0,hb1,hb2,rfl⟩:=(hrel:∃ x,bT C ρ α [src] [y] [x]∧x.sz=sz∧zc x∧x.cells≠[]∧(∀ u∈ae ((V.a ((B.c.drop oo).take (cp*sz))).den ρ α),u.oneCell'=true)∧((ae ((V.a ((B.c.drop oo).take (cp*sz))).den ρ α)).length+x.cells.length) / sz*by'≤140737488355328∧((ae ((V.a ((B.c.drop oo).take (cp*sz))).den ρ α)).length+x.cells.length) / sz≤140737488355328∧v=.agg (ae ((V.a ((B.c.drop oo).take (cp*sz))).den ρ α)++x.cells).toArray)
 have hcl0:ae ((V.a ((B.c.drop oo).take (cp*sz))).den ρ α)=ah ρ α ((B.c.drop oo).take (cp*sz)):=by simp [V.den,ae]
 rw [hcl0]at hb1 hb2 hone0 hv
 obtain⟨hbn,hbk⟩:=dp hB
 have hRd:Rd W sz (some ⟨(α n).b,oo,none⟩) cp (ah ρ α ((B.c.drop oo).take (cp*sz))):=Rd.j8 (hI.st.at_ (hI.dS hbn hbk)) (by rw [cz]) (by rw [cz];simp [aq];omega)
 generalize hcells:ah ρ α ((B.c.drop oo).take (cp*sz))=cells at *
 obtain⟨hv1,hrd⟩:=fO hI hKf hsrc hargs
 have hyv:a.eval yo=xa.v:=by rw [hy];simpa [ah]using hv1.symm
 have hxrd:=hrd xa ai
 have hcl:cells.length=cp*sz:=hRd.1
 have hxe:a.eval xo=.slice (some ⟨(α n).b,oo,none⟩) cp cp:=hx
 have hres:bx sh0.length Sh.any (some (V.row nm))=.row nm:=rfl
 rw [hres]at hw hK
 obtain⟨m,hSrc,hml⟩:=Bz (C:=C) (t:=t') (aV hsl) h0 hxsz hxrd hone
 have hxs:∀ (α':Nat→AV),(⟨[.x sh0.length []],e,.row sz⟩:ak).xs ρ α'=cells++xa.cells:=fun α'=>by simp [ak.xs,ah,V.den,List.getD_eq_getElem?_getD,hv,ae]
 have hm:0<m:=by
  rcases Nat.eq_zero_or_pos m with rfl|hm
  ·exact absurd (List.eq_nil_of_length_eq_zero (af hml)) hne
  exact hm
 have hold:(Builtin.firstCells sz cp (.slice (some ⟨(α n).b,oo,none⟩) cp cp)).run C.P W.drew=.ok cells.toArray W.drew:=by
  refine run_firstCells_some W.drew sz cp _ cp cp _ hcl fun j u hu=>?_
  obtain⟨ad',e2,hcl2⟩:=Rd.in hRd (List.getElem?_eq_some_iff.1 hu).1
  cases e2
  exact hcl2 j u hu
 rw [hcl,hml,← Nat.add_mul,Nat.mul_div_cancel _ h0]at hb1 hb2
 refine je (olds:=cells) hop hxe hold hcl hyv hSrc (aV hsl) hsz hz hzs hby ab hbyl hb1 hb2 hI.st fun k cap Z W' hk hS hl hcap hmax=>?_
 have hlen2:(cells++xa.cells).length=(cp+m)*sz:=by rw [List.length_append,hcl,hml,Nat.add_mul]
 refine gR (b:=⟨[.x sh0.length []],e,.row sz⟩) hI hnm' rfl hw hK ⟨k,.slice (some ⟨k,0,none⟩) (cp+m) cap,Z⟩ (fun α' h1 h2 h3 h4=>⟨St.perm ?_ (dy (k:=0) hnm'.1 (e:=⟨k,(cells++xa.cells++Z).toArray,e⟩) ?_),h0,.inr ⟨cp+m,cap,by rw [h1],by rw [hxs];exact hlen2,by rw [hxs,h1];exact hl,hcap,hmax⟩⟩) fun α' h1=>by simp only [V.den,h1]
 ·rw [h4];exact hS
 simp only [ak.ch,Nat.zero_add,h1,hxs]
theorem xk(hI:aF w0 ps T ρ s a W α)(hps:me C w0 ps){vv:List V}:∀ {ts:List TypeId}{vs:List V}{rw:List Rw}{as':List Arg},ew C.P (cK s.hp vv) ts vs=some rw→bT C ρ α rw vs as'→∀ (j:Nat)(x:Arg),as'[j]?=some x→(∀ sz,rw[j]?=some (.ext sz)→C.A x.v x.sz x.cells) →
 (∃ v,vs[j]?=some v∧(match v with|.x _ _=>true|.row n=>(vE (cK s.hp vv) n).isSome|.k (.slice none 0 _)=>true|.sl n _ _ _=>B4 (cK s.hp vv) n|_=>false)=true)→∀ W2,bp (bk (aU ρ α 0 s.hp) (dP a s T)) W W2→jW w0 x W2
 | [],[],rw,as',h,ha,j,x,hj,_,⟨v,hv,_⟩,W2,_=>by simp at hv
 | [],_::_,rw,as',h,ha,_,_,_,_,_,_,_=>by simp [ew]at h
 | _::_,[],rw,as',h,ha,_,_,_,_,_,_,_=>by simp [ew]at h
 | t::ts,v::vs,rw,as',h,ha,j,x,hj,hA,hv,W2,hW2=>by
  unfold ew at h
  simp only [Option.bind_eq_some_iff,Option.map_eq_some_iff]at h
  obtain⟨r,hr,rw',hrw,rfl⟩:=h
  cases as' with
  | nil=>simp at hj
  | cons x0 xs =>
  have hK2:Kf C W2:=hI.st.pers _ (List.mem_append.2 (.inr hps.1)) W2 hW2
  have htl:bT C ρ α rw' vs xs:=by
   cases r with
   | no=>exact ha.2.2
   | own _ _=>exact ha.2
   | ext _=>exact ha.2.2.2
   | row _ _=>exact ha.2
  cases j with
  | succ j=>exact xk hI hps hrw htl j x (af hj) (fun sz hsz=>hA sz (af hsz)) (af hv) W2 hW2
  | zero =>
   obtain rfl:x0=x:=af hj
   obtain⟨v',hv',hok⟩:=hv
   obtain rfl:v=v':=af hv'
   have noSl:∀ u:Value,Nq u=false→x0=⟨u,0,[]⟩→jW w0 x0 W2:=fun u hu hx0=>by
    subst hx0
    have:∀ W3,Arg.rd W3 ⟨u,0,[]⟩:=fun W3=>by
     unfold Arg.rd
     split
     ·rename_i hq
      dsimp only at hq
      rw [hq]at hu
      cases hu
     trivial
    exact⟨this W2,.inr ⟨fun W3 _=>this W3,fun B _ ad n c e _=>by dsimp only at e;rw [e]at hu;cases hu⟩⟩
   split at hok
   ·-- not known
    rename_i i p
    cases hsl:eh C.P t with
    | none =>
     rw [hsl]at hr
     obtain rfl:Rw.no=r:=af hr
     exact noSl _ ha.2.1 ha.1
    | some e =>
     rw [hsl]at hr
     simp only at hr
     split at hr
     ·rename_i sz hsz
      obtain rfl:Rw.ext sz=r:=af hr
      obtain⟨h1,h2,h3,_⟩:=ha
      have hAx:=hA sz rfl
      cases x0
      simp only at h1 h2
      subst h1;subst h2
      exact⟨hK2 _ _ _ h3,.inr ⟨fun W3 h4=>hps.2.1 W3 h4 _ _ _ hAx,fun B hB=>hps.2.2.1 B hB _ _ _ hAx⟩⟩
     cases hr
   ·rename_i n
    obtain⟨⟨c,sz⟩,hex⟩:=Option.isSome_iff_exists.1 hok
    obtain⟨e,hn⟩:=tS hex
    cases hsl:eh C.P t with
    | none=>rw [hsl]at hr;cases hr
    | some e' =>
     rw [hsl]at hr
     simp only [Option.map_eq_some_iff]at hr
     obtain⟨⟨c',e2,sz'⟩,hrow,rfl⟩:=hr
     obtain⟨k,hn',hk⟩:=ee hrow
     rw [hn]at hn'
     simp only [Option.some.injEq,ak.mk.injEq]at hn'
     obtain⟨rfl,rfl,rfl⟩:=hn'
     obtain rfl:sz=sz':=af hk
     obtain⟨rfl,_⟩:=ha
     exact nq hI hn W2 hW2
   ·rename_i cc
    cases hsl:eh C.P t with
    | none =>
     rw [hsl]at hr
     obtain rfl:Rw.no=r:=af hr
     exact noSl _ ha.2.1 ha.1
    | some e =>
     rw [hsl]at hr
     simp only at hr
     split at hr
     ·rename_i sz hsz
      obtain rfl:Rw.own sz []=r:=af hr
      obtain⟨rfl,_⟩:=ha
      have:∀ W3,Arg.rd W3 ⟨.slice none 0 cc,sz,[]⟩:=fun W3=>nK
      exact⟨this W2,.inr ⟨fun W3 _=>this W3,fun B _ ad n c e _=>by simp [V.den]at e⟩⟩
     cases hr
   ·rename_i n oo l cc
    obtain⟨b0,hn0,hk0⟩:=Gc hok
    cases hsl:eh C.P t with
    | none=>rw [hsl]at hr;cases hr
    | some e =>
     rw [hsl]at hr
     simp only at hr
     split at hr
     ·rename_i sz b hsz hb
      split at hr
      ·rename_i hlt
       obtain rfl:Rw.own sz ((b.c.drop oo).take (l*sz))=r:=af hr
       obtain⟨rfl,_⟩:=ha
       obtain⟨hn1,_⟩:=gF hb
       rw [hn0]at hn1
       simp only [Option.some.injEq]at hn1
       subst hn1
       obtain⟨hf1,hf2⟩:=hI.O6 hn0 hk0 W2 hW2
       refine⟨⟨?_,hlt.2⟩,.inl fun ad len cap e _=>?_⟩
       ·show Rd W2 sz (some ⟨(α n).b,oo,none⟩) l (ah ρ α ((b0.c.drop oo).take (l*sz)))
        exact Rd.j8 hf1 (by rw [cz]) (by rw [cz];simp [aq];omega)
       simp only [V.den]at e
       cases e
       exact hf2
      cases hr
     cases hr
   cases hok
theorem FL{sh0:List Sh}{c:Go.Call}{f:Operand}{g:FuncId}{args':List V}{q:cZ}{args:List V}{sh:Sh}{mk:Option V}{new:Option ak}{wr:Option (Nat×ak)}{v:Value}{vv:List V}(hop:o.op=.call c)(hcal:c.callee=.value f)(he:o.op.operands.toList.map a.eval=ah ρ α (.f (.func g) [] []::args'))(hpl:mN C (cK s.hp vv) nm sh0.length g c.argTypes.toList args'=.df q args sh mk new wr)(hnew:¬ (new=none∧wr=none))
 (hC:C.Ok) (hps:me C w0 ps) (hI:aF w0 ps T ρ s a W α) (hv:ρ[sh0.length]?=some v) (hrel:q.rel C ρ α args v) (hfit:sh.fit v=true) (hnm:new=none∨bh s nm) (hw:aW s nm (bx sh0.length sh mk) new wr=true) (hK:∀ a' W',Inv w0 ps T ρ (s.dl nm o.dst (bx sh0.length sh mk) new wr) a' W'→K a' W'):o.wp C.P a W K Q:=by
 have hKf:Kf C W:=hI.fact hps.1
 unfold mN at hpl
 split at hpl
 case h_2=>cases hpl
 rename_i sh' rw' hsh hrw hen
 split at hpl
 ·cases hpl
  exact absurd ⟨rfl,rfl⟩ hnew
 case h_3=>cases hpl
 rename_i p sz hsls
 split at hpl
 case isFalse=>cases hpl
 rename_i hc
 obtain⟨h0,hali⟩:=hc
 cases hpl
 have hnm':bh s nm:=hnm.resolve_left nofun
 obtain⟨K',as',ha,hR,hK',hArel⟩:=Kq hI hKf hrw hrel
 obtain⟨h5,h6⟩:=fO hI hKf hrw ha
 have hcall:=hC.r K' g as' v W hR h6 hK'
 rw [h5]at hcall
 have hshg:C.sh g=sh:=by unfold Cx.sh;rw [hsh];rfl
 rw [hshg,hsls]at hcall
 rw [hop]at he
 simp only [Op.operands,Call.operands,hcal,ah,V.den]at he
 simp at he
 obtain⟨h7,h8⟩:=he
 obtain⟨cal,ar,at'⟩:=c
 simp only at hcal h8 hrw
 subst hcal
 have hres:bx sh0.length sh (some (sh.qM nm sh0.length []))=sh.qM nm sh0.length []:=rfl
 rw [hres]at hw hK
 refine iM hop h7 (vs:=(ah ρ α args').toArray) ?_ (de hen _ _) (R:=fun u W'=>Below W.heap.size W W'∧∃ hdr,u=sh.fill hdr v∧mX C g as' W W' hdr sz (ae (p.foldl comp v))) (hcall.mono fun e W' ⟨hb,hdr,he,hh⟩=>⟨_,he,hb,hdr,rfl,hh p sz (List.mem_cons_self ..)⟩) ?_
 ·exact Array.ext' (af h8)
 rintro u W' ⟨hb,hdr,rfl,⟨A,len,cap,rfl,hlc⟩,hrd,hprov⟩
 have hxs:(⟨[.x sh0.length p],0,.ext sz⟩:ak).xs ρ α=ae (p.foldl comp v):=by
  simp [ak.xs,ah,V.den,List.getD_eq_getElem?_getD,hv]
 have hrd':Rd W' sz A len (ae (p.foldl comp v)):=hrd.1
 refine jX (b:=⟨[.x sh0.length p],0,.ext sz⟩) hI hnm' rfl hw hK ⟨0,.slice A len cap,[]⟩ (hI.step hb).st h0 ⟨_,_,_,rfl,by rw [hxs];exact hrd'.1,hlc,fun hl=>?_⟩ (fun W2 hW2=>?_) fun α' h1 _=>?_
 ·obtain⟨ad,rfl,_⟩:=hrd'.2 hl
  rfl
 ·rw [hxs]
  rcases hprov with hf|⟨j,hj,x,hx,hr2,hf2⟩
  ·exact⟨wq hrd hW2 hf fun b hm=>(hI.st.gL hm).2,.inl (Mn.up hf hI.st.b5.size)⟩
  have hW:bp (bk (aU ρ α 0 s.hp) (dP a s T)) W W2:=(bp.below hb).trans hW2
  have hok:=List.all_eq_true.1 hali j hj
  have hvj:∃ v,args'[j]?=some v:=by
   cases hq:args'[j]? with
   | none=>rw [hq]at hok;cases hok
   | some v=>exact⟨v,rfl⟩
  obtain⟨vj,hvj⟩:=hvj
  rw [hvj]at hok
  have hx2:=xk hI hps hrw ha j x hx (fun sz' hsz'=>hArel j hj x sz' hx hsz') ⟨vj,hvj,by
   revert hok
   cases vj with
   | k u=>cases u with
    | slice A n c=>cases A<;>(try cases n)<;>exact id
    | _=>exact id
   | _=>exact id⟩ W2 hW
  exact⟨hr2 W2 hx2.1,hx2.2.imp (fun h=>hf2 _ h) fun h=>⟨fun W3 h3=>hr2 W3 (h.1 W3 h3),fun B hB=>hf2 B (h.2 B hB)⟩⟩
 rw [xQ ρ α' nm sh0.length sh [] v (by simp [List.getD_eq_getElem?_getD,hv]) hfit,h1]
theorem _root_.Go.Proofs.YtidekfgkpindbaaGreatDoor.St.wrote{w0:fB}{W W':World}{hs hs':List Ch}{os:List Ow}{ps:List (World→Prop)}(h:St w0 hs os ps W){k:Nat}{c c':Array Value}{t:TypeId}(hu:mj k c t c' hs hs')(hos:W'.os=W.os)(htp:W'.tape=W.tape)(hout:W'.output=W.output)(hsm:bp [k] W W')(hk:W'.heap[k]?=some (.cells c' t (0,0))):St w0 hs' os ps W':=by
 have hids:=hu.ids
 have hm:bk hs' os=bk hs os:=by unfold bk;rw [hids]
 have hnd:=List.nodup_append.1 h.nodup
 have hmem:=hu.mem
 have hkm:k∈bk hs os:=List.mem_append.2 (.inl (List.mem_map.2 ⟨_,hmem,rfl⟩))
 have hkl:=h.gL hkm
 have hoth:∀ b,b<W.heap.size→b≠k→W'.heap[b]?=W.heap[b]?:=fun b hb hn=>hsm.block b hb (af hn)
 refine⟨⟨hos.trans h.b5.os,htp.trans h.b5.tape,hout.trans h.b5.output,Nat.le_trans h.b5.size hsm.size,fun b hb hn=>?_⟩,fun e he=>?_,fun e he=>?_,by rw [hm];exact h.nodup,fun p hp W2 h2=>h.pers p hp W2 ?_⟩
 ·rw [hoth b (Nat.lt_of_lt_of_le hb h.b5.size) (by
   rintro rfl;rcases hkl.1 with h1|h1;· omega
   exact hn h1)]
  exact h.b5.block b hb hn
 ·rcases hu.of hnd.1 e he with rfl|⟨h1,h2⟩
  ·exact⟨(h.dS _ hmem).1,hk⟩
  have h3:=h.dS e h1
  exact⟨h3.1,(hoth _ (Array.getElem?_eq_some_iff.1 h3.2).1 h2).trans h3.2⟩
 ·have h3:=h.own e he
  refine⟨h3.1,(hoth _ (Array.getElem?_eq_some_iff.1 h3.2).1 ?_).trans h3.2⟩
  rintro rfl
  exact hnd.2.2 _ (List.mem_map.2 ⟨_,hmem,rfl⟩) _ (List.mem_flatMap.2 ⟨e,he,by simp [Ow.dS]⟩) rfl
 rw [hm]at h2
 exact bp.trans (ids:=bk hs os) ⟨hsm.size,fun b hb hn=>hoth b hb fun e=>hn (e▸hkm)⟩ h2
theorem tE{hp:List (Option ak)}{vv:List V}:∀ {cap:List V}{cs:List (Nat×ak)},qD (cK hp vv) cap=some cs→cap=cs.map (fun e=>V.p e.1 0)∧∀ e∈cs,hp[e.1]?=some (some e.2)∧e.2.k=.cells
 | [],cs,h=>by
  obtain rfl:[]=cs:=by simpa [qD]using h
  exact⟨rfl,fun _ h=>nomatch h⟩
 | v::l,cs,h=>by
  unfold qD at h
  split at h
  ·rename_i hq;cases hq
  ·rename_i n l' hq
   cases hq
   split at h
   ·rename_i b hb
    simp only [Option.map_eq_some_iff]at h
    obtain⟨cs',h1,rfl⟩:=h
    obtain⟨h2,h3⟩:=tE h1
    refine⟨by simp [h2],fun e he=>?_⟩
    rcases List.mem_cons.1 he with rfl|he
    ·exact dp hb
    exact h3 e he
   cases h
  cases h
theorem vw{ρ:List Value}{α:Nat→AV}{hp:List (Option ak)}(hn:((aU ρ α 0 hp).map (·.id)).Nodup){n1 n2:Nat}{b1 b2:ak}{e1 e2:Ch}(h:n1≠n2)(h1:hp[n1]?=some (some b1))(h2:b1.ch ρ α n1=some e1)(h3:hp[n2]?=some (some b2))(h4:b2.ch ρ α n2=some e2):e1.id≠e2.id:=by
 have key:∀ {hp:List (Option ak)} {k:Nat},((aU ρ α k hp).map (·.id)).Nodup→∀ {n1 n2:Nat} {b1 b2:ak} {e1 e2:Ch},n1<n2→hp[n1]?=some (some b1)→b1.ch ρ α (k+n1)=some e1→hp[n2]?=some (some b2)→b2.ch ρ α (k+n2)=some e2→e1.id≠e2.id:=by
  intro hp
  induction hp with
  | nil=>intro k _ n1 n2 b1 b2 e1 e2 _ h1;simp at h1
  | cons o l ih =>
   intro k hn n1 n2 b1 b2 e1 e2 hlt h1 h2 h3 h4
   have hl:((aU ρ α (k+1) l).map (·.id)).Nodup:=by
    cases o with
    | none=>simpa [aU]using hn
    | some b =>
     unfold aU at hn
     rw [List.map_append]at hn
     exact(List.nodup_append.1 hn).2.1
   cases n2 with
   | zero=>omega
   | succ n2 =>
    cases n1 with
    | zero =>
     obtain rfl:o=some b1:=af h1
     rw [Nat.add_zero]at h2
     have hm:e2∈aU ρ α (k+1) l:=dk (af h3) (by rwa [show k+1+n2=k+(n2+1) by omega])
     unfold aU at hn
     simp only [h2,Option.toList_some,List.cons_append,List.nil_append,List.map_cons]at hn
     intro he
     exact(List.nodup_cons.1 hn).1 (he▸List.mem_map.2 ⟨e2,hm,rfl⟩)
    | succ n1 =>
     exact ih hl (n1:=n1) (n2:=n2) (b1:=b1) (b2:=b2) ab (af h1) (by rwa [show k+1+n1=k+(n1+1) by omega]) (af h3) (by rwa [show k+1+n2=k+(n2+1) by omega])
 rcases Nat.lt_or_gt_of_ne h with hlt|hlt
 ·exact key hn hlt h1 (by rwa [Nat.zero_add]) h3 (by rwa [Nat.zero_add])
 exact(key hn hlt h3 (by rwa [Nat.zero_add]) h1 (by rwa [Nat.zero_add])).symm
theorem nQ(hI:aF w0 ps T ρ s a W α)(hps:me C w0 ps){vv:List V}{bs ns:List Nat}(hbs:∀ b∈bs,∃ (m:Nat)(B:ak)(e:Ch),s.hp[m]?=some (some B)∧B.ch ρ α m=some e∧b=e.id∧m∈ns):∀ {ts:List TypeId}{vs:List V}{rw:List Rw}{as':List Arg},ew C.P (cK s.hp vv) ts vs=some rw→bT C ρ α rw vs as'→(∀ m∈eu vs,m∉ns)→∀ W2,bp bs W W2→∀ x∈as',x.rd W2
 | [],[],rw,as',h,ha,_,W2,_=>by
  obtain rfl:[]=rw:=by simpa [ew]using h
  cases as' with
  | nil=>exact fun _ h=>nomatch h
  | cons _ _=>exact ha.elim
 | [],_::_,rw,as',h,ha,_,_,_=>by simp [ew]at h
 | _::_,[],rw,as',h,ha,_,_,_=>by simp [ew]at h
 | t::ts,v::vs,rw,as',h,ha,hn,W2,hW2=>by
  have hndi:=(List.nodup_append.1 hI.st.nodup).1
  have hsub:∀ b0∈bs,b0∈bk (aU ρ α 0 s.hp) (dP a s T):=fun b0 hb0=>by
   obtain⟨m,B,e,h1,h2,rfl,_⟩:=hbs b0 hb0
   exact List.mem_append.2 (.inl (List.mem_map.2 ⟨_,dk (k:=0) h1 (by rw [Nat.zero_add];exact h2),rfl⟩))
  have hmu:bp (bk (aU ρ α 0 s.hp) (dP a s T)) W W2:=⟨hW2.size,fun b0 hb0 hn=>hW2.block b0 hb0 fun hm=>hn (hsub b0 hm)⟩
  have hne:∀ (m:Nat) (B:ak) (e:Ch),m∈eu (v::vs)→s.hp[m]?=some (some B)→B.ch ρ α m=some e→e.id∉bs:=fun m B e hm h1 h2 hb=>by
   obtain⟨m2,B2,e2,h3,h4,h5,h6⟩:=hbs _ hb
   have hmm:m≠m2:=fun e=>hn m hm (e▸h6)
   exact vw hndi hmm h1 h2 h3 (e2:=e2) h4 h5
  unfold ew at h
  simp only [Option.bind_eq_some_iff,Option.map_eq_some_iff]at h
  obtain⟨r,hr,rw',hrw,rfl⟩:=h
  have key:∀ x xs,as'=x::xs→x.rd W2→bT C ρ α rw' vs xs→∀ x∈as',x.rd W2:=fun x xs h1 h3 h4=>by
   have h6:=nQ hI hps hbs hrw h4 (fun m hm=>hn m (by simp only [eu,List.flatMap_cons,List.mem_append];exact .inr hm)) W2 hW2
   subst h1
   intro y hy
   rcases List.mem_cons.1 hy with rfl|hy
   ·exact h3
   exact h6 y hy
  split at hr
  ·rename_i n oo l cc e he
   split at hr
   ·rename_i sz b hsz hb
    split at hr
    ·rename_i hlt
     obtain rfl:Rw.own sz ((b.c.drop oo).take (l*sz))=r:=af hr
     cases as' with
     | nil=>exact ha.elim
     | cons x xs =>
      obtain⟨rfl,h4⟩:=ha
      refine key _ _ rfl ?_ h4
      have hblk2:W2.heap[(α n).b]?=some (.cells (ah ρ α b.c).toArray b.t (0,0)):=by
       obtain⟨hbn,hbk⟩:=gF hb
       rcases hbk with hbk|hbk
       ·have hblk:=hI.st.at_ (hI.dS hbn hbk)
        have hnb:=hne n b ⟨(α n).b,(ah ρ α b.c).toArray,b.t⟩ (by simp [eu,vS]) hbn (by simp only [ak.ch,hbk])
        exact(hW2.block _ (Array.getElem?_eq_some_iff.1 hblk).1 hnb).trans hblk
       exact(hI.O6 hbn hbk W2 hmu).1
      refine⟨?_,hlt.2⟩
      show Rd W2 sz (some ⟨(α n).b,oo,none⟩) l (ah ρ α ((b.c.drop oo).take (l*sz)))
      exact Rd.j8 hblk2 (by rw [cz]) (by rw [cz];simp [aq];omega)
    cases hr
   cases hr
  ·rename_i cc e he
   split at hr
   ·rename_i sz hsz
    obtain rfl:Rw.own sz []=r:=af hr
    cases as' with
    | nil=>exact ha.elim
    | cons x xs =>
     obtain⟨rfl,h4⟩:=ha
     refine key _ _ rfl ?_ h4
     exact⟨Rd.none_,Nat.zero_le _⟩
   cases hr
  ·rename_i i p e he
   split at hr
   ·rename_i sz hsz
    obtain rfl:Rw.ext sz=r:=af hr
    cases as' with
    | nil=>exact ha.elim
    | cons x xs =>
     obtain⟨h1,h2,h3,h4⟩:=ha
     refine key _ _ rfl ?_ h4
     have hK2:Kf C W2:=hI.st.pers _ (List.mem_append.2 (.inr hps.1)) W2 hmu
     have:=hK2 _ _ _ h3
     rw [← h1]at this
     cases x
     subst h2
     exact this
   cases hr
  ·rename_i n e he
   simp only [Option.map_eq_some_iff]at hr
   obtain⟨⟨c,e',sz⟩,hrow,rfl⟩:=hr
   cases as' with
   | nil=>exact ha.elim
   | cons x xs =>
    obtain⟨rfl,h4⟩:=ha
    refine key _ _ rfl ?_ h4
    obtain⟨k,hrn,hk⟩:=ee hrow
    show Arg.rd W2 ⟨(α n).h,sz,(ah ρ α c).flatMap ae⟩
    rcases hk with rfl|rfl
    ·have hrd:Arg.rd W ⟨(α n).h,sz,(ah ρ α c).flatMap ae⟩:=oK hI hrn (.inl rfl)
     obtain⟨_,hro⟩:=(hI.rows n _ hrn).2
     rcases hro with ⟨_,hh⟩|⟨len,cap,hh,_⟩
     ·rw [hh]at hrd ⊢
      exact⟨⟨hrd.1.1,fun h=>absurd h ab⟩,hrd.2⟩
     have hnb:=hne n _ ⟨(α n).b,((⟨c,e',.row sz⟩:ak).xs ρ α++(α n).tl).toArray,e'⟩ (by simp [eu,vS]) hrn (by simp only [ak.ch,hh])
     rw [hh]at hrd ⊢
     exact⟨hrd.1.same hW2 (fun ad e=>by cases e;exact hnb),hrd.2⟩
    exact(nq hI hrn W2 hmu).1
  ·cases hr
  ·cases hr
  ·cases hr
  obtain rfl:Rw.no=r:=af hr
  cases as' with
  | nil=>exact ha.elim
  | cons x xs =>
   obtain⟨rfl,h3,h4⟩:=ha
   refine key _ _ rfl ?_ h4
   unfold Arg.rd
   split
   ·rename_i hq
    dsimp only at hq
    rw [hq]at h3
    cases h3
   trivial
theorem FK{sh0:List Sh}{c:Go.Call}{f:Operand}{g:FuncId}{args' cap:List V}{q:cZ}{args:List V}{sh:Sh}{mk:Option V}{new:Option ak}{wr:Option (Nat×ak)}{v:Value}{vv:List V}(hop:o.op=.call c)(hcal:c.callee=.value f)(he:o.op.operands.toList.map a.eval=ah ρ α (.f (.func g) [] cap::args'))(hpl:kV C (cK s.hp vv) nm sh0.length g c.argTypes.toList args' cap=.df q args sh mk new wr)
 (hC:C.Ok) (hps:me C w0 ps) (hI:aF w0 ps T ρ s a W α) (hv:ρ[sh0.length]?=some v) (hrel:q.rel C ρ α args v) (hfit:sh.fit v=true) (hnm:new=none∨bh s nm) (hw:aW s nm (bx sh0.length sh mk) new wr=true) (hK:∀ a' W',Inv w0 ps T ρ (s.dl nm o.dst (bx sh0.length sh mk) new wr) a' W'→K a' W'):o.wp C.P a W K Q:=by
 have hKf:Kf C W:=hI.fact hps.1
 unfold kV at hpl
 split at hpl
 case h_2=>cases hpl
 rename_i j sz rw' cs hcw hrw hcs hen
 split at hpl
 case h_2=>cases hpl
 rename_i n b hj
 split at hpl
 case isFalse=>cases hpl
 rename_i hc
 obtain⟨h0,hb1,hnd,hnn⟩:=hc
 cases hpl
 have hnm':bh s nm:=hnm.resolve_left nofun
 obtain⟨hcap,hcb⟩:=tE hcs
 have hl:=nP hrw
 obtain⟨as',ha,hR⟩:=hrel
 rw [List.take_left' hl.symm]at ha
 obtain⟨h5,h6⟩:=fO hI hKf hrw ha
 obtain⟨hnn,hdis⟩:=hnn
 have hndi:=(List.nodup_append.1 hI.st.nodup).1
 have hbm0:∀ b0∈cs.map (fun e=>(α e.1).b),∃ (m:Nat) (B:ak),s.hp[m]?=some (some B)∧B.k=.cells∧b0=(α m).b∧m∈cs.map (·.1):=fun b0 hb0=>by
  obtain⟨e,he,rfl⟩:=List.mem_map.1 hb0
  exact⟨e.1,e.2,(hcb e he).1,(hcb e he).2,rfl,List.mem_map.2 ⟨e,he,rfl⟩⟩
 have hbm:∀ b0∈cs.map (fun e=>(α e.1).b),∃ (m:Nat) (B:ak) (e:Ch),s.hp[m]?=some (some B)∧B.ch ρ α m=some e∧b0=e.id∧m∈cs.map (·.1):=fun b0 hb0=>by
  obtain⟨m,B,h1,h2,rfl,h4⟩:=hbm0 b0 hb0
  exact⟨m,B,⟨(α m).b,(ah ρ α B.c).toArray,B.t⟩,h1,by simp only [ak.ch,h2],rfl,h4⟩
 have hsub:∀ b0∈cs.map (fun e=>(α e.1).b),b0∈bk (aU ρ α 0 s.hp) (dP a s T):=fun b0 hb0=>by
  obtain⟨m,B,h1,h2,rfl,_⟩:=hbm0 b0 hb0
  exact List.mem_append.2 (.inl (List.mem_map.2 ⟨_,hI.dS h1 h2,rfl⟩))
 have hup:∀ {W2:World},bp (cs.map (fun e=>(α e.1).b)) W W2→bp (bk (aU ρ α 0 s.hp) (dP a s T)) W W2:=fun h=>⟨h.size,fun b0 hb0 hn=>h.block b0 hb0 fun hm=>hn (hsub b0 hm)⟩
 have hjl:=(List.getElem?_eq_some_iff.1 hj).1
 obtain⟨hn,hbk⟩:=hcb (n,b) (List.mem_of_getElem? hj)
 have hn:s.hp[n]?=some (some b):=hn
 have hbk:b.k=.cells:=hbk
 have hcall:=hC.w g as' ((cs.map (·.2.c)).map (ah ρ α)) v W (cs.map (fun e=>(α e.1).b)) (cs.map (·.2.t)) (α n).b j sz b.t hcw hR
  (fun x hx W2 hW2=>nQ hI hps hbm hrw ha (fun m hm hc=>by
   have:=List.all_eq_true.1 hdis m hm
   simp only [Bool.not_eq_true',List.contains_eq_mem,decide_eq_false_iff_not]at this
   exact this hc) W2 hW2 x hx)
  (fun u z cells hk W2 hW2=>hI.st.pers _ (List.mem_append.2 (.inr hps.1)) W2 (hup hW2) _ _ _ hk)
  (by
   unfold List.Nodup at hnd ⊢
   rw [List.pairwise_map]at hnd ⊢
   exact hnd.imp_of_mem fun {e e'} he he' hne=>vw (e1:=⟨(α e.1).b,(ah ρ α e.2.c).toArray,e.2.t⟩) (e2:=⟨(α e'.1).b,(ah ρ α e'.2.c).toArray,e'.2.t⟩) hndi hne (hcb e he).1 (by simp only [ak.ch,(hcb e he).2]) (hcb e' he').1 (by simp only [ak.ch,(hcb e' he').2]))
  ai ai (fun i b0 c0 t0 h1 h2 h3=>by
   simp only [List.getElem?_map,Option.map_eq_some_iff]at h1 h2 h3
   obtain⟨e,he,rfl⟩:=h1
   obtain⟨_,⟨e2,he2,rfl⟩,rfl⟩:=h2
   obtain⟨e3,he3,rfl⟩:=h3
   rw [he]at he2 he3
   cases he2;cases he3
   have:=hcb e (List.mem_of_getElem? he)
   exact hI.st.at_ (hI.dS this.1 this.2)) (by simp [hj]) (by simp [hj])
 rw [hop]at he
 simp only [Op.operands,Call.operands,hcal,ah,V.den]at he
 simp at he
 obtain⟨h7,h8⟩:=he
 obtain⟨cal,ar,at'⟩:=c
 simp only at hcal h8 hrw
 subst hcal
 have hres:bx sh0.length (.tp [.sl sz,.one]) (some (.row nm))=.row nm:=rfl
 rw [hres]at hw hK
 have hargs:(as'.map Arg.v++(cs.map (fun e=>(α e.1).b)).map fun b=>Value.pointer (some ⟨b,0,none⟩))=ah ρ α (args'++cap):=by
  rw [h5,aE,aE,List.map_append,hcap,List.map_map,List.map_map]
  congr 1
 rw [hargs]at hcall
 refine iM hop h7 (vs:=(ah ρ α (args'++cap)).toArray) ?_ (de hen _ _) (R:=fun u W'=>W'.os=W.os∧W'.tape=W.tape∧W'.output=W.output∧bp [(α n).b] W W'∧W'.heap[(α n).b]?=some (.cells #[comp v 1] b.t (0,0))∧Mr C (cs.map (fun e=>(α e.1).b)) W W' u sz (ae (comp v 0))) (hcall.mono fun e W' ⟨hdr,h1,h2⟩=>⟨hdr,h1,h2⟩) ?_
 ·exact Array.ext' (by simp [aE]at h8 ⊢;simp [h8])
 rintro u W' ⟨hos,htp,hout,hsm,hbl,⟨A,len,cp,rfl,hlc⟩,hrd,hprov⟩
 have hx1:ah ρ α [V.x sh0.length [1]]=[comp v 1]:=by simp [ah,V.den,List.getD_eq_getElem?_getD,hv]
 have hx0:(⟨[.x sh0.length [0]],0,.ext sz⟩:ak).xs ρ α=ae (comp v 0):=by simp [ak.xs,ah,V.den,List.getD_eq_getElem?_getD,hv]
 have hupd:mj (α n).b (ah ρ α b.c).toArray b.t #[comp v 1] (aU ρ α 0 s.hp) (aU ρ α 0 (s.hp.set n (some ⟨[.x sh0.length [1]],b.t,.cells⟩))):=gQ (k:=0) hn (by simp only [ak.ch,hbk,Nat.zero_add]) (by simp only [ak.ch,Nat.zero_add,hx1])
 have hS:=hI.st.wrote hupd hos htp hout hsm hbl
 simp only [aW,ov,Bool.and_eq_true,hI.good.len]at hw
 have hI1:=hI.PP hn (b':=⟨[.x sh0.length [1]],b.t,.cells⟩) hw.2.1 (by simp [ak.bB]) rfl hS
 have hids:=hupd.ids
 have hmu:bk (aU ρ α 0 (s.hp.set n (some ⟨[.x sh0.length [1]],b.t,.cells⟩))) (dP a s T)=bk (aU ρ α 0 s.hp) (dP a s T):=by unfold bk;rw [hids]
 have hfr:bh (s.lay n ⟨[.x sh0.length [1]],b.t,.cells⟩) nm:=⟨by simp only [S.lay];rw [List.getElem?_set_ne (fun e=>hnn e.symm)];exact hnm'.1,hnm'.2⟩
 refine jX (s:=s.lay n ⟨[.x sh0.length [1]],b.t,.cells⟩) (v:=.row nm) (b:=⟨[.x sh0.length [0]],0,.ext sz⟩) hI1 hfr rfl ?_ (fun a2 W2 h2=>hK a2 W2 ?_) ⟨0,.slice A len cp,[]⟩ hI1.st h0 ⟨_,_,_,rfl,by rw [hx0];exact hrd.1.1,hlc,fun hl=>?_⟩ (fun W2 hW2=>?_) fun α' h1 _=>by simp only [V.den,h1]
 ·simp only [aW,ov,Bool.and_eq_true,Bool.and_true]
  rw [show(s.lay n ⟨[.x sh0.length [1]],b.t,.cells⟩).sh.length=ρ.length from hI.good.len]
  exact⟨hw.1.1,hw.1.2⟩
 ·have e:(s.lay n ⟨[.x sh0.length [1]],b.t,.cells⟩).make nm ⟨[.x sh0.length [0]],0,.ext sz⟩=(s.make nm ⟨[.x sh0.length [0]],0,.ext sz⟩).lay n ⟨[.x sh0.length [1]],b.t,.cells⟩:=by
   simp only [S.make,S.lay]
   rw [List.set_comm _ _ (fun e=>hnn e.symm)]
  unfold S.dl at h2 ⊢
  dsimp only at h2 ⊢
  rw [e]at h2
  exact h2
 ·have:=hrd.1.2 hl
  obtain⟨ad,rfl,_⟩:=this
  rfl
 rw [hx0]
 have hW2':bp (bk (aU ρ α 0 s.hp) (dP a s T)) W' W2:=by rw [← hmu];exact hW2
 rcases hprov with hf|⟨s',sz',cells',hk,hA,hr2,hf2⟩
 ·exact⟨wq hrd hW2' hf fun b hm=>(hI.st.gL hm).2,.inl (Mn.up hf hI.st.b5.size)⟩
 have hK2:Kf C W2:=hS.pers _ (List.mem_append.2 (.inr hps.1)) W2 hW2
 exact⟨hr2 W2 (hK2 _ _ _ hk),.inr ⟨fun W3 h3=>hr2 W3 (hps.2.1 W3 h3 _ _ _ hA),fun B hB=>hf2 B (hps.2.2.1 B hB _ _ _ hA)⟩⟩
theorem LH{sh0:List Sh}{t:TypeId}{xo yo:Operand}{x y:V}{e:TypeId}{sz by':Nat}{z v:Value}(hop:o.op=.makeSlice t xo yo)(hvs:o.op.operands.toList.mapM s.ev=some [x,y])(hsl:eh C.P t=some e)(hsz:aT C.P e=some sz)(hz:zeroOf C.P e=some z)(hb:bytesOf C.P e=some by')(h0:0<sz)
 (hI:aF w0 ps T ρ s a W α) (hv:ρ[sh0.length]?=some v) (hrel:(cZ.mks z sz by').rel C ρ α [x,y] v) (hnm:bh s nm) (hw:aW s nm (.row nm) (some ⟨[.x sh0.length []],e,.row sz⟩) none=true) (hK:∀ a' W',Inv w0 ps T ρ (s.dl nm o.dst (.row nm) (some ⟨[.x sh0.length []],e,.row sz⟩) none) a' W'→K a' W'):o.wp C.P a W K Q:=by
 have he:=cN hI.good hI.fm hvs
 rw [hop]at he
 simp [Op.operands,ah]at he
 obtain⟨kl,kc,L,M,hx,hy,hL0,hLM,hM,hby,rfl⟩:=(hrel:∃ kl kc L M,x.den ρ α=.int kl L∧y.den ρ α=.int kc M∧0≤L∧L≤M∧M≤140737488355328∧(by':Int)*M≤281474976710656∧v=.agg (madeCells z.cells (L.toNat*sz)))
 refine sS hop (he.1.trans hx) (he.2.trans hy) (aV hsl) hsz hz hb hL0 hLM hby ab hI.st fun k W' hS _ _=>?_
 have hxs:∀ α',(⟨[.x sh0.length []],e,.row sz⟩:ak).xs ρ α'=(madeCells z.cells (L.toNat*sz)).toList:=fun α'=>by
  simp [ak.xs,ah,V.den,List.getD_eq_getElem?_getD,hv,ae]
 have hle:L.toNat*sz≤M.toNat*sz:=Nat.mul_le_mul_right _ ab
 have htake:(madeCells z.cells (L.toNat*sz)).toList=(madeCells z.cells (M.toNat*sz)).toList.take (L.toNat*sz):=by
  apply List.ext_getElem
  ·simp only [madeCells,Array.length_toList,Array.size_map,Array.size_range,List.length_take]
   exact(Nat.min_eq_left hle).symm
  intro i h1 h2
  simp [madeCells]
 have hcat:(madeCells z.cells (L.toNat*sz)).toList++(madeCells z.cells (M.toNat*sz)).toList.drop (L.toNat*sz)=(madeCells z.cells (M.toNat*sz)).toList:=by
  rw [htake,List.take_append_drop]
 refine gR hI hnm rfl hw hK ⟨k,.slice (some ⟨k,0,none⟩) L.toNat M.toNat,(madeCells z.cells (M.toNat*sz)).toList.drop (L.toNat*sz)⟩ (fun α' h1 h2 h3 h4=>⟨?_,?_⟩) fun α' h1=>by simp only [V.den,h1]
 ·refine St.perm ?_ (dy (k:=0) hnm.1 (e:=⟨k,madeCells z.cells (M.toNat*sz),e⟩) ?_)
  ·rw [h4];exact hS
  simp only [ak.ch,Nat.zero_add,h1,hxs,hcat]
 refine⟨h0,.inr ⟨L.toNat,M.toNat,by rw [h1],?_,?_,ab,by simp only [maxLen];omega⟩⟩
 ·rw [hxs];simp [madeCells]
 rw [hxs,h1,hcat];simp [madeCells]
theorem Jl{sh0:List Sh}{q:cZ}{args:List V}{sh:Sh}{mk:Option V}{new:Option ak}{wr:Option (Nat×ak)}{vs:List V}(hsh:sh0<+:s.sh)(hC:C.Ok)(hps:me C w0 ps)(hvs:o.op.operands.toList.mapM s.ev=some vs)(h:gj C sh0 nm o.op vs (s.ja o.op vs)=.df q args sh mk new wr)(hI:aF w0 ps T ρ s a W α){v:Value}(hv:ρ[sh0.length]?=some v)(hrel:q.rel C ρ α args v)(hfit:sh.fit v=true)
 (hnm:new=none∨bh s nm) (hw:aW s nm (bx sh0.length sh mk) new wr=true) (hK:∀ a' W',Inv w0 ps T ρ (s.dl nm o.dst (bx sh0.length sh mk) new wr) a' W'→K a' W'):o.wp C.P a W K Q:=by
 by_cases hnw:new=none∧wr=none
 ·obtain⟨rfl,rfl⟩:=hnw
  refine Jk hC hps hvs (fun hs=>⟨fS s.hp o.op vs,by simp [S.ja,ey,hs]⟩) (yd hI _ _) h hI hrel fun W' hb=>?_
  have hu:ue ρ α v mk=(bx sh0.length sh mk).den ρ α:=by
   cases mk with
   | some e=>rfl
   | none =>
    simp only [ue,bx,Option.getD_none]
    exact(iV ρ α _ sh [] v (by simp [List.getD_eq_getElem?_getD,hv]) hfit).symm
  rw [hu]
  exact aB (hI.step hb) hw hK
 have hsee:bX o.op=false→(BS o.op || wI o.op)=false→s.ja o.op vs=cK s.hp vs:=fun hs hc=>by simp only [S.ja,ey,hs,Bool.false_and,fS,hc,Bool.false_eq_true,if_false]
 have appArgs:∀ (c:Go.Call) (t:TypeId) (x y:V),o.op=.call c→c.callee=.builtin .append→c.argTypes.toList=[t,t]→vs=[x,y]→∃ p q',c={ callee:=.builtin .append,args:=#[p,q'],argTypes:=#[t,t] }∧a.eval p=x.den ρ α∧a.eval q'=y.den ρ α:=by
  intro c t x y hop hcal hts hvs2
  subst hvs2
  have he:=cN hI.good hI.fm hvs
  rw [hop]at he
  obtain⟨cal,ar,at'⟩:=c
  simp only at hcal hts
  subst hcal
  have har:ar.map a.eval=#[x.den ρ α,y.den ρ α]:=by
   have:(ah ρ α [x,y]).toArray=#[x.den ρ α,y.den ρ α]:=by simp [ah]
   rw [← this,← he]
   exact Array.ext' (by simp [Op.operands,Call.operands])
  obtain⟨p,q',rfl,hp,hq⟩:=O9 har
  have hat:at'=#[t,t]:=by rw [← Array.toArray_toList (xs:=at'),hts]
  subst hat
  exact⟨p,q',rfl,hp,hq⟩
 rcases Jm h hnw with ⟨t,xo,yo,n,i,sz,off,vv,c,e,k,hop,rfl,hrow,hs,hk,hk0,hone,rfl,rfl,rfl,rfl,rfl⟩|⟨c,t,x,y,hop,hcal,hts,rfl,hap⟩|⟨t,xo,lo,hi,mx,n,as',hop,rfl,hpl⟩|⟨c,t,x,y,hop,hcal,hts,rfl,hap⟩|⟨c,f,g,cap,as',hop,hcal,rfl,hcap,hpl⟩|⟨c,f,g,cap,as',hop,hcal,rfl,hpl⟩|⟨t,xo,yo,x,y,e,sz,z,by',hop,rfl,hsl,hsz,hz,hb,h0,rfl,rfl,rfl,rfl,rfl,rfl⟩
 ·have he:=cN hI.good hI.fm hvs
  rw [show s.ja o.op [.ep (.row n) i sz off,vv]=cK s.hp (fS s.hp o.op [.ep (.row n) i sz off,vv]) by simp [S.ja,hop,ey,bX]]at hrow
  rw [hop]at he
  simp [Op.operands,ah,V.den]at he
  exact J0 hsh hop he.1 he.2 (gm hrow) hs hk hk0 hone hI hv hrel hw hK
 ·rw [hsee (by rw [hop];simp [bX,hcal]) (by rw [hop];simp [BS,wI,hcal])]at hap
  obtain⟨p,q',rfl,hp,hq⟩:=appArgs c t x y hop hcal hts rfl
  exact KX hop hp hq hap hC hps hI hv hrel hnm hw hK
 ·rw [hsee (by rw [hop];rfl) (by rw [hop];rfl)]at hpl
  exact Kb hop (cN hI.good hI.fm hvs) ⟨s.hp,rfl,fun _ _ _ h=>h⟩ hpl hI hv hrel hnm hw hK
 ·rw [hsee (by rw [hop];simp [bX,hcal]) (by rw [hop];simp [BS,wI,hcal])]at hap
  obtain⟨p,q',rfl,hp,hq⟩:=appArgs c t x y hop hcal hts rfl
  exact IZ hop hp hq hap hps hI hv hrel hnm hw hK
 ·rw [show s.ja o.op (.f (.func g) [] cap::as')=cK s.hp (fS s.hp o.op (.f (.func g) [] cap::as')) by simp [S.ja,hop,ey,bX,hcal]]at hpl
  have hcap':cap=[]:=af hcap
  subst hcap'
  exact FL hop hcal (cN hI.good hI.fm hvs) hpl hnw hC hps hI hv hrel hfit hnm hw hK
 ·rw [show s.ja o.op (.f (.func g) [] cap::as')=cK s.hp (fS s.hp o.op (.f (.func g) [] cap::as')) by simp [S.ja,hop,ey,bX,hcal]]at hpl
  exact FK hop hcal (cN hI.good hI.fm hvs) hpl hC hps hI hv hrel hfit hnm hw hK
 exact LH hop hvs hsl hsz hz hb h0 hI hv hrel (hnm.resolve_left nofun) hw hK
theorem w5{m N:Nat}{cs:List Value}{u:Value}{path:List Nat}(hv:path.foldl comp (ρ.getD m undef)=.agg cs.toArray)(hl:cs.length=N):ah ρ α ((List.range N).map fun j=>V.x m (path++[j]))=cs:=by
 subst hl
 rw [aE,List.map_map]
 conv=>rhs;rw [← rK cs undef]
 refine List.map_congr_left fun j _=>?_
 simp only [Function.comp,V.den,List.foldl_append,hv,List.foldl_cons,List.foldl_nil,xI]
theorem rh{D vs:List Value}{o q k L:Nat}(hq:q+k≤L)(hL:o+L≤D.length)(hk:vs.length=k):D.take o++(((D.drop o).take L).take q++vs++((D.drop o).take L).drop (q+k))++D.drop (o+L)=D.take (o+q)++vs++D.drop (o+q+k):=by
 have h1:D.take (o+q)=D.take o++((D.drop o).take L).take q:=by
  rw [List.take_take,Nat.min_eq_left ab,← List.take_add]
 have h2:D.drop (o+q+k)=((D.drop o).take L).drop (q+k)++D.drop (o+L):=by
  have e:D.drop o=(D.drop o).take L++D.drop (o+L):=by rw [← List.drop_drop,List.take_append_drop]
  rw [show D.drop (o+q+k)=(D.drop o).drop (q+k) by rw [List.drop_drop];congr 1;omega]
  conv=>lhs;rw [e]
  rw [List.drop_append_of_le_length aw]
 rw [h1,h2]
 simp only [List.append_assoc]
theorem jL{P:Program}{x ix:Operand}{t e:TypeId}{len n:Nat}{ad:Addr}{k:IntKind}{i:Int}(ho:o.op=.indexAddr t x ix)(hx:a.eval x=.pointer (some ad))(hi:a.eval ix=.int k i)(hu:gO P t=some (len,e))(h0:0≤i)(h1:i<len)
 (hs:aT P e=some n) (h:K (a.put o.dst (.pointer (some (ad.add (i.toNat*n))))) W):o.wp P a W K Q:=by
 unfold Oper.wp execOp
 simp only [ho,hx,hi,Instr.indexAt,Instr.sureAddr,asIntOf,Sem.run_bind,Sem.run_pure,Result.andThen_ok,run_underlying (kE hu),if_pos (And.intro h0 h1),cv hs]
 exact h
theorem Kl{P:Program}{t t' e:TypeId}{xo yo:Operand}{k kk:IntKind}{n:Int}{size by':Nat}{z:Value}{hs:List Ch}{os:List Ow}(ho:o.op=.call { callee:=.builtin .append,args:=#[xo,yo],argTypes:=#[t,t'] }) (hx:a.eval xo=.slice none 0 0) (hy:a.eval yo=.int k n)
 (hu:P.underlying t=some (.slice e)) (hk:P.underlying t'=some (.int kk)) (hsz:aT P e=some size) (hz:zeroOf P e=some z) (hzs:z.cells.size=size) (hb:bytesOf P e=some by') (h0:0<n) (hn:n≤70368744177664) (hby:n*(by':Int)≤140737488355328) (hS:St w0 hs os ps W)
 (h:∀ k' cap Z W',St w0 (⟨k',((madeCells z.cells (n.toNat*size)).toList++Z).toArray,e⟩::hs) os ps W'→((madeCells z.cells (n.toNat*size)).toList++Z).length=cap*size→n.toNat≤cap→cap≤maxLen→K (a.put o.dst (.slice (some ⟨k',0,none⟩) n.toNat cap)) W'):o.wp P a W K Q:=by
 cases hie:P.info? e with
 | none=>simp [aT,hie]at hsz
 | some i =>
  have hz':i.zero=some z:=by simpa [zeroOf,hie]using hz
  have hs':i.size=size:=by simpa [aT,hie]using hsz
  have hb':i.bytes=by':=by simpa [bytesOf,hie]using hb
  subst hs'
  subst hb'
  obtain⟨m,rfl⟩:∃ m:Nat,n=(m:Int):=⟨n.toNat,ab⟩
  have hm0:0<m:=ab
  have hw64:IntKind.i64.wrap (m:Int)=(m:Int):=by
   simp [IntKind.wrap,IntKind.bits,IntKind.signed]<;>omega
  have hbn:((m*i.bytes:Nat):Int)≤140737488355328:=by rw [Int.natCast_mul];exact hby
  have hms:m*i.size≠0∨i.size=0:=by
   rcases Nat.eq_zero_or_pos i.size with h|h
   ·exact .inr h
   exact .inl (Nat.ne_of_gt (Nat.mul_pos hm0 h))
  have hrun:(Builtin.append_ #[t,t'] o.type #[.slice none 0 0,.int k (m:Int)]).run P W=.ok (.slice (some ⟨W.heap.size,0,none⟩) m (grownCap W m 0 e)) (W.drew.alloc (.cells ((madeCells z.cells (m*i.size))++Builtin.zeroCells z.cells (grownCap W m 0 e-m)) e)):=by
   have h1:¬ ((m:Int)<0):=ab
   have h2:¬ (281474976710656<(m:Int)*(i.bytes:Int)):=by rw [← Int.natCast_mul];omega
   have h3:¬ (9223372036854775807<(m:Int)):=ab
   have h4:¬ (281474976710656<Builtin.nextslicecap m 0*i.bytes):=by rw [nextslicecap_zero hm0];omega
   have hn0:m≠0:=ab
   have hmz:m*i.size≠0∨(m*i.size=0∧madeCells z.cells (m*i.size)=#[]):=by
    rcases Nat.eq_zero_or_pos (m*i.size)with h|h
    ·exact .inr ⟨h,by rw [h];simp [madeCells]⟩
    exact .inl (Nat.ne_of_gt h)
   have hzc:Builtin.zeroCells z.cells m=madeCells z.cells (m*i.size):=by simp [Builtin.zeroCells,madeCells,hzs]
   rcases hmz with hmz|⟨hmz,hme⟩
   ·simp [Builtin.append_,run_underlying hu,run_underlying hk,sizeOf,typeInfo,zeroValue,hie,hz',Builtin.lenOf,asInt,asIntOf,hw64,hn0,h1,h2,h3,h4,hmz,Question.forced,run_firstCells_none,newRow,grownCap,hzc]
   simp [Builtin.append_,run_underlying hu,run_underlying hk,sizeOf,typeInfo,zeroValue,hie,hz',Builtin.lenOf,asInt,asIntOf,hw64,hn0,h1,h2,h3,h4,hmz,show madeCells z.cells 0=#[] by simp [madeCells],Question.forced,run_firstCells_none,newRow,grownCap,hzc]
  unfold Oper.wp execOp
  simp only [ho,resolve,invoke,builtin,Sem.run_bind,Sem.run_pure,Result.andThen_ok,List.map_toArray,List.map_cons,List.map_nil,hx,hy,hrun]
  have hcap:=grownCap_ge W m 0 e
  have hZ:=hS.drew.new (madeCells z.cells (m*i.size)++Builtin.zeroCells z.cells (grownCap W m 0 e-m)) e
  refine h _ _ (Builtin.zeroCells z.cells (grownCap W m 0 e-m)).toList _ ?_ ?_ hcap (grownCap_le_maxLen W m 0 e (by unfold maxLen;omega))
  ·have e1:((madeCells z.cells (((m:Int)).toNat*i.size)).toList++(Builtin.zeroCells z.cells (grownCap W m 0 e-m)).toList).toArray=madeCells z.cells (m*i.size)++Builtin.zeroCells z.cells (grownCap W m 0 e-m):=by
    apply Array.ext';simp
   rw [e1]
   exact hZ
  simp only [List.length_append,Array.length_toList,madeCells,Builtin.zeroCells,Array.size_map,Array.size_range,hzs,Int.toNat_natCast]
  rw [← Nat.add_mul,Nat.add_sub_cancel' hcap]
theorem Iz{k:Nat}{c:Array Value}{t:TypeId}{hs hs':List Ch}(h:mj k c t c hs hs'):hs'=hs:=by
 induction h with
 | here=>rfl
 | there _ ih=>rw [ih]
theorem BH{P:Program}{t t' e:TypeId}{xo yo:Operand}{A B:Option Addr}{l1 c1 l2 c2:Nat}(hop:o.op=.call { callee:=.builtin .copy,args:=#[xo,yo],argTypes:=#[t,t'] }) (hx:a.eval xo=.slice A l1 c1) (hy:a.eval yo=.slice B l2 c2)
 (hu:P.underlying t=some (.slice e)) (hs1:aT P e=some 1) (hn:Nat.min l2 l1=0) (h:K (a.put o.dst (.int .i64 0)) W):o.wp P a W K Q:=by
 have hrun:=run_copy_none (P:=P) W t t' o.type e A B l1 c1 l2 c2 hu hs1 hn
 unfold Oper.wp execOp
 simp only [hop,resolve,invoke,builtin,Sem.run_bind,Sem.run_pure,Result.andThen_ok,List.map_toArray,List.map_cons,List.map_nil,hx,hy,hrun,goInt]
 exact h
theorem oe{P:Program}{K:Act→World→Prop}{Q:Exit→Act→World→Prop}{a:Act}{o:Oper}{W:World}{f:Operand}{args:Array Operand}{ats:Array TypeId}{g:FuncId}{vs fs cap:Array Value}(ho:o.op=.call { callee:=.value f,args,argTypes:=ats }) (hf:a.eval f=.func (.func g) fs cap) (hargs:fs++args.map a.eval++cap=vs)
 (hc:(callFunc g vs).run P W=.ok (.enter g vs) W) {R:Value→World→Prop} (h:Calls P g vs W fun e W'=>∃ v,e=.returned v∧R v W') (hk:∀ v W',R v W'→K (a.put o.dst v) W'):o.wp P a W K Q:=by
 subst hargs
 unfold Oper.wp execOp
 simp only [ho,resolve,Deferred.ofValue,hf,invoke,Sem.run_bind,Sem.run_pure,Result.andThen_ok,hc,Oper.upon]
 refine h.mono fun e W' ⟨v,he,hR⟩=>?_
 subst he
 exact hk v W' hR
theorem FT{sh0:List Sh}{xo yo:Operand}{t t' e:TypeId}{n oo l cc k cap:Nat}{A:Option Addr}{B:ak}{cells:List Value}{v:Value}(hop:o.op=.call { callee:=.builtin .copy,args:=#[xo,yo],argTypes:=#[t,t'] }) (hp:a.eval xo=.slice (some ⟨(α n).b,oo,none⟩) l cc) (hq:a.eval yo=.slice A k cap) (hsl:eh C.P t=some e) (hsz:aT C.P e=some 1)
 (hbn:s.hp[n]?=some (some B)) (hbk:B.k=.cells) (hlen:oo+l≤B.c.length) (hI:aF w0 ps T ρ s a W α) (hvd:ρ.getD sh0.length undef=v) (hRd:Rd W 1 A k cells) (hone:∀ u∈cells,u.oneCell'=true)
 (hv:v=.tuple #[.int .i64 ((Nat.min k l:Nat):Int),.agg (cells.take l++(((ah ρ α B.c).drop oo).take l).drop (Nat.min k l)).toArray])
 (hw:aW s nm (bx sh0.length (.tp [.one,.ag l]) (some (V.x sh0.length [0]))) none (some (n,⟨cl B.c oo ((List.range l).map fun j=>V.x sh0.length [1,j]),B.t,B.k⟩))=true) (hK:∀ a' W',Inv w0 ps T ρ (s.dl nm o.dst (bx sh0.length (.tp [.one,.ag l]) (some (V.x sh0.length [0]))) none (some (n,⟨cl B.c oo ((List.range l).map fun j=>V.x sh0.length [1,j]),B.t,B.k⟩))) a' W'→K a' W'):o.wp C.P a W K Q:=by
 have hkl:cells.length=k:=by simpa using hRd.1
 have hvD:ρ.getD sh0.length undef=.tuple #[.int .i64 ((Nat.min k l:Nat):Int),.agg (cells.take l++(((ah ρ α B.c).drop oo).take l).drop (Nat.min k l)).toArray]:=by rw [hvd,hv]
 have hmin:Nat.min k l=min k l:=rfl
 have hct:cells.take l=cells.take (min k l):=by
  rcases Nat.le_total k l with hle|hle
  ·rw [Nat.min_eq_left hle,List.take_of_length_le ab,List.take_of_length_le ab]
  rw [Nat.min_eq_right hle]
 have hdl:(cells.take (min k l)).length=min k l:=by rw [List.length_take];omega
 have hBl:(ah ρ α B.c).length=B.c.length:=aq ..
 have hxs:=w5 (ρ:=ρ) (α:=α) (u:=undef) (path:=[1]) (m:=sh0.length) (N:=l) (cs:=cells.take l++(((ah ρ α B.c).drop oo).take l).drop (min k l)) (by rw [hvD];rfl) (by
  rw [hct,List.length_append,hdl,List.length_drop,List.length_take,List.length_drop];omega)
 simp only [List.cons_append,List.nil_append]at hxs
 have hms:=rh (D:=ah ρ α B.c) (vs:=cells.take (min k l)) (o:=oo) (q:=0) (k:=min k l) (L:=l) ab ab hdl
 simp only [List.take_zero,List.nil_append,Nat.add_zero,Nat.zero_add]at hms
 have hnew:ah ρ α (cl B.c oo ((List.range l).map fun j=>V.x sh0.length [1,j]))=(ah ρ α B.c).take oo++cells.take (min k l)++(ah ρ α B.c).drop (oo+min k l):=by
  unfold cl
  rw [ea,ea,hxs,hct]
  simp only [List.length_map,List.length_range]
  rw [show ah ρ α (B.c.take oo)=(ah ρ α B.c).take oo by simp [aE,List.map_take],show ah ρ α (B.c.drop (oo+l))=(ah ρ α B.c).drop (oo+l) by simp [aE,List.map_drop],← hms]
 have hup:mj (α n).b (ah ρ α B.c).toArray B.t ((ah ρ α B.c).take oo++cells.take (min k l)++(ah ρ α B.c).drop (oo+min k l)).toArray (aU ρ α 0 s.hp) (aU ρ α 0 (s.hp.set n (some ⟨cl B.c oo ((List.range l).map fun j=>V.x sh0.length [1,j]),B.t,B.k⟩))):=by
  refine gQ (k:=0) hbn (by simp only [ak.ch,hbk,Nat.zero_add]) ?_
  simp only [ak.ch,hbk,Nat.zero_add,hnew]
 have hrow:(⟨cl B.c oo ((List.range l).map fun j=>V.x sh0.length [1,j]),B.t,B.k⟩:ak).bB ρ α n:=by simp [ak.bB,hbk]
 have hown:(⟨cl B.c oo ((List.range l).map fun j=>V.x sh0.length [1,j]),B.t,B.k⟩:ak).own=true:=by simp [ak.own,hbk]
 have hres:(bx sh0.length (.tp [.one,.ag l]) (some (V.x sh0.length [0]))).den ρ α=.int .i64 ((min k l:Nat):Int):=by
  simp only [bx,Option.getD_some,V.den,hvD,List.foldl_cons,List.foldl_nil]
  rfl
 rcases Nat.eq_zero_or_pos (min k l)with h0|h0
 ·refine BH hop hp hq (aV hsl) hsz h0 ?_
  refine gI hI hbn hrow hown hw hK (hS:=?_) (by rw [hres,h0];rfl)
  have:((ah ρ α B.c).take oo++cells.take (min k l)++(ah ρ α B.c).drop (oo+min k l))=ah ρ α B.c:=by rw [h0];simp
  rw [this]at hup
  rw [Iz hup]
  exact hI.st
 obtain⟨ad,rfl,hlt,hcl⟩:=hRd.2 ab
 refine sR (cs:=cells.take (min k l)) hop hp hq (aV hsl) hsz hI.st (by simpa only [hdl]using hup) hdl (fun j u hu=>?_) (by rw [hdl];simp;omega) (fun u hu=>hone u (List.mem_of_mem_take hu)) fun W' hS=>?_
 ·rw [List.getElem?_take]at hu
  split at hu
  ·exact hcl j u hu
  cases hu
 rw [hdl]
 exact gI hI hbn hrow hown hw hK hS (by rw [hres])
theorem wB{P:Program}{src dst:TypeId}{x:Operand}{A:Option Addr}{n c:Nat}{l:List UInt8}(hop:o.op=.convert src dst x)(hx:a.eval x=.slice A n c)(hr:Rd W 1 A n (l.map fun b=>Value.int .u8 (b.toNat:Int)))(hb:Gq P src dst=true):(execOp a.eval o).run P W=.ok (.value (.string ⟨l.toArray⟩)) W:=by
 unfold Gq at hb
 split at hb
 case h_2=>cases hb
 rename_i e hsl hd
 split at hb
 case h_2=>cases hb
 rename_i heu
 have hl:l.length=n:=by have:=hr.1;simpa using this
 have hrun:(convert src dst (.slice A n c)).run P W=.ok (.string ⟨l.toArray⟩) W:=by
  cases A with
  | none =>
   have h0:n=0:=by
    rcases Nat.eq_zero_or_pos n with h|h
    ·exact h
    obtain⟨ad,e1,_⟩:=hr.2 h;cases e1
   subst h0
   obtain rfl:l=[]:=List.eq_nil_of_length_eq_zero hl
   rw [run_convert_bytes_string W src dst e none 0 c (aV hsl) heu hd]
   rfl
  | some ad =>
   subst hl
   rcases Nat.eq_zero_or_pos l.length with h|h
   ·obtain rfl:l=[]:=List.eq_nil_of_length_eq_zero h
    exact run_convert_bytes_back W src dst e ad c [] (aV hsl) heu hd (fun j hj=>absurd hj ai)
   obtain⟨ad',e1,_,hc⟩:=hr.2 h
   cases e1
   exact run_convert_bytes_back W src dst e ad c l (aV hsl) heu hd (fun j hj=>hc j _ (by simp [hj]))
 simp [execOp,hop,hx,hrun,Result.andThen]
theorem rW(hI:aF w0 ps T ρ s a W α){vv:List V}:∀ {ts:List TypeId}{vs:List V}{rw:List Rw}{as':List Arg},ew C.P (cK s.hp vv) ts vs=some rw→bT C ρ α rw vs as'→∀ p∈rw.zip as',p.1.Gr=true→zt W p.2
 | [],[],rw,as',h,ha=>by
  obtain rfl:[]=rw:=by simpa [ew]using h
  intro p hp
  simp at hp
 | [],_::_,rw,as',h,ha=>by simp [ew]at h
 | _::_,[],rw,as',h,ha=>by simp [ew]at h
 | t::ts,v::vs,rw,as',h,ha=>by
  unfold ew at h
  simp only [Option.bind_eq_some_iff,Option.map_eq_some_iff]at h
  obtain⟨r,hr,rw',hrw,rfl⟩:=h
  cases as' with
  | nil=>intro p hp;simp at hp
  | cons x xs =>
   have rest:bT C ρ α rw' vs xs:=by
    cases r<;>simp only [bT]at ha
    ·exact ha.2.2
    ·exact ha.2
    ·exact ha.2.2.2
    exact ha.2
   intro p hp ho
   rw [List.zip_cons_cons]at hp
   rcases List.mem_cons.1 hp with rfl|hp
   ·split at hr
    ·rename_i n oo l cc e he
     split at hr
     ·rename_i sz b hsz hb
      split at hr
      ·obtain rfl:Rw.own sz ((b.c.drop oo).take (l*sz))=r:=af hr
       obtain⟨rfl,_⟩:=ha
       intro ad n' c' e'
       simp only [V.den,Value.slice.injEq,Option.some.injEq]at e'
       obtain⟨rfl,rfl,rfl⟩:=e'
       exact⟨_,_,hI.PM (gF hb).1 (gF hb).2⟩
      cases hr
     cases hr
    ·rename_i cc e he
     split at hr
     ·rename_i sz hsz
      obtain rfl:Rw.own sz []=r:=af hr
      obtain⟨rfl,_⟩:=ha
      intro ad n' c' e'
      simp [V.den]at e'
     cases hr
    ·split at hr
     ·obtain rfl:=Option.some.inj hr
      cases ho
     cases hr
    ·obtain⟨q,_,rfl⟩:=Option.map_eq_some_iff.1 hr
     cases ho
    ·cases hr
    ·cases hr
    ·cases hr
    obtain rfl:=Option.some.inj hr
    cases ho
   exact rW hI hrw rest p hp ho
theorem NI{sh0:List Sh}{f:Operand}{ar:Array Operand}{ats:Array TypeId}{g:FuncId}{args' vv0:List V}{q:cZ}{args:List V}{sh:Sh}{mk:Option V}{new:Option ak}{wr:Option (Nat×ak)}{v:Value}(hop:o.op=.call { callee:=.value f,args:=ar,argTypes:=ats }) (h7:a.eval f=.func (.func g) #[] #[]) (h8:ar.toList.map a.eval=ah ρ α args')
 (h:rF C (cK s.hp vv0) nm sh0.length g ats.toList args'=.df q args sh mk new wr) (hps:me C w0 ps) (hI:aF w0 ps T ρ s a W α) (hv:ρ[sh0.length]?=some v) (hrel:q.rel C ρ α args v)
 (hnm:new=none∨bh s nm) (hw:aW s nm (bx sh0.length sh mk) new wr=true) (hK:∀ a' W',Inv w0 ps T ρ (s.dl nm o.dst (bx sh0.length sh mk) new wr) a' W'→K a' W'):o.wp C.P a W K Q:=by
 have hKf:Kf C W:=hI.fact hps.1
 have hvD:ρ.getD sh0.length undef=v:=by rw [List.getD_eq_getElem?_getD,hv];rfl
 unfold rF at h
 split at h
 ·-- a row is taken
  rename_i hrc hen
  split at h
  case h_2=>cases h
  rename_i n r t ts' hts
  split at h
  case h_2=>cases h
  rename_i c e sz e' rw' hrow hsl hrw
  split at h
  case isFalse=>cases h
  rename_i hc
  obtain⟨rfl,h0,hdis⟩:=hc
  injection h with h1 h2 h3 h4 h5 h6
  subst h1;subst h2;subst h3;subst h4;subst h5;subst h6
  have hnm':bh s nm:=hnm.resolve_left nofun
  obtain⟨as',ha,hP⟩:=(hrel:∃ as',bT C ρ α rw' r as'∧mY C g rw' as' (ae ((V.cat c).den ρ α)) sz e v)
  have hcat:ae ((V.cat c).den ρ α)=(ah ρ α c).flatMap ae:=by simp [V.den,ae]
  rw [hcat]at hP
  have hn:=gm hrow
  have hne:n≠nm:=uc (yg hn) hnm'.1
  have hset:(s.hp.set nm (some ⟨[.x sh0.length []],e,.row sz⟩)).set n (some bH)=(s.hp.set n (some bH)).set nm (some ⟨[.x sh0.length []],e,.row sz⟩):=List.set_comm _ _ (fun h=>hne h.symm)
  have hnm2:(s.hp.set n (some bH))[nm]?=some none:=by rw [List.getElem?_set_ne hne];exact hnm'.1
  have hxs:∀ α',(⟨[.x sh0.length []],e,.row sz⟩:ak).xs ρ α'=ae v:=fun α'=>by
   simp [ak.xs,ah,V.den,List.getD_eq_getElem?_getD,hv]
  obtain⟨_,hinfo⟩:=eE hI hn
  obtain⟨h5,h6⟩:=fO hI hKf hrw ha
  have hRow:iP sz (α n).h (α n).b e ((ah ρ α c).flatMap ae) (α n).tl W:=by
   rcases hinfo with ⟨h1,h2⟩|⟨len,cap,h1,h2,h3,h4,h5,h6⟩
   ·exact .inl ⟨h2,h1⟩
   exact .inr ⟨len,cap,h1,h2,h3,h4,h5,hI.st.at_ h6⟩
  have hbm:∀ b0∈iA (α n).h,∃ (m:Nat) (B:ak) (e:Ch),s.hp[m]?=some (some B)∧B.ch ρ α m=some e∧b0=e.id∧m∈[n]:=fun b0 hb0=>by
   rcases hinfo with ⟨h1,h2⟩|⟨len,cap,h1,h2,h3,h4,h5,h6⟩
   ·rw [h2]at hb0;simp [iA]at hb0
   rw [h1]at hb0
   obtain rfl:=List.mem_singleton.1 hb0
   exact⟨n,_,⟨(α n).b,((ah ρ α c).flatMap ae++(α n).tl).toArray,e⟩,hn,by simp only [ak.ch,h1];rfl,rfl,List.mem_cons_self ..⟩
  have hsub:∀ b0∈iA (α n).h,b0∈bk (aU ρ α 0 s.hp) (dP a s T):=fun b0 hb0=>by
   obtain⟨m,B,e,h1,h2,rfl,_⟩:=hbm b0 hb0
   exact List.mem_append.2 (.inl (List.mem_map.2 ⟨_,dk (k:=0) h1 (by rw [Nat.zero_add];exact h2),rfl⟩))
  have hup:∀ {W2:World},bp (iA (α n).h) W W2→bp (bk (aU ρ α 0 s.hp) (dP a s T)) W W2:=fun h=>⟨h.size,fun b0 hb0 hn=>h.block b0 hb0 fun hm=>hn (hsub b0 hm)⟩
  have hcall:=hP W (α n).h (α n).b (α n).tl hRow (fun x hx W2 hW2=>nQ hI hps hbm hrw ha (fun m hm hc=>by
   have:=List.all_eq_true.1 hdis m hm
   simp only [Bool.not_eq_true',List.contains_eq_mem,decide_eq_false_iff_not]at this
   exact this hc) W2 hW2 x hx) (fun u z cells hk W2 hW2=>hI.st.pers _ (List.mem_append.2 (.inr hps.1)) W2 (hup hW2) _ _ _ hk) (rW hI hrw ha)
  refine oe hop h7 (vs:=((α n).h::as'.map Arg.v).toArray) ?_ (de hen _ _) (R:=fun u W'=>∃ b' tl',W'.os=W.os∧W'.tape=W.tape∧W'.output=W.output∧bp (iA (α n).h) W W'∧iP sz u b' e (ae v) tl' W'∧(b'∈iA (α n).h∨W.heap.size≤b')) (hcall.mono fun e W' ⟨h',b',tl',h1,h2⟩=>⟨h',h1,b',tl',h2⟩) ?_
  ·rw [h5]
   exact Array.ext' (by simpa [ah,V.den]using h8)
  rintro u W' ⟨b',tl',hos,htp,hout,hsm,hR,hb'⟩
  refine jt hI hnm' hw hK ⟨b',u,tl'⟩ (fun α' h1 h2 h3 h5 h4=>?_) rfl (fun α' h1=>by simp only [bx,Option.getD_some,V.den,h1])
  rw [hset]
  have hfin:∀ {L:List Ch},aU ρ α' 0 (s.hp.set n (some bH))=L→(u=.slice none 0 0→St w0 L (dP a s T) (gZ w0 ρ α 0 s.hp++ps) W')→(∀ c:Array Value,W'.heap[b']?=some (.cells c e (0,0))→St w0 (⟨b',c,e⟩::L) (dP a s T) (gZ w0 ρ α 0 s.hp++ps) W')→St w0 (aU ρ α' 0 ((s.hp.set n (some bH)).set nm (some ⟨[.x sh0.length []],e,.row sz⟩))) (dP a s T) (gZ w0 ρ α 0 s.hp++ps) W'∧(⟨[.x sh0.length []],e,.row sz⟩:ak).bB ρ α' nm:=fun {L} hL hno hyes=>by
   rcases hR with ⟨rfl,hcells⟩|⟨len,cap,rfl,hl1,hl2,hlc,hcm,hat⟩
   ·refine⟨?_,h0,.inl ⟨by rw [hxs,hcells],by rw [h1]⟩⟩
    rw [gA (k:=0) hnm2 (by simp only [ak.ch,Nat.zero_add,h1]),hL]
    exact hno rfl
   refine⟨St.perm ?_ (dy (k:=0) hnm2 (e:=⟨b',(ae v++tl').toArray,e⟩) (by simp only [ak.ch,Nat.zero_add,h1,hxs])),h0,.inr ⟨len,cap,by rw [h1],by rw [hxs];exact hl1,by rw [hxs,h1];exact hl2,hlc,hcm⟩⟩
   rw [hL]
   exact hyes _ hat
  rcases hinfo with ⟨hx0,hh⟩|⟨len,cap,hh,hl1,hl2,hlc,hcm,hmem⟩
  ·have hsame:aU ρ α' 0 (s.hp.set n (some bH))=aU ρ α 0 s.hp:=by
    obtain⟨l1,l2,q1,q2⟩:=cy (ρ:=ρ) (α:=α') (k:=0) hn
    rw [← h4,q1,q2]
    have:(⟨c,e,.row sz⟩:ak).ch ρ α' (0+n)=none:=by
     have e5:=h5 n _ hn
     rw [Nat.zero_add,e5]
     simp only [ak.ch,hh]
    simp only [Option.bind_some,this]
    simp [bH,ak.ch]
   rw [hh]at hsm hb'
   have hbel:Below W.heap.size W W':=⟨hos,htp,hout,hsm.size,fun b hb=>hsm.block b hb (by simp [iA])⟩
   exact hfin hsame (fun _=>hI.st.step hbel) fun c hc=>hI.st.made hbel hc (hb'.resolve_left (by simp [iA]))
  obtain⟨l1,l2,q1,q2⟩:=cy (ρ:=ρ) (α:=α) (k:=0) hn
  have hchn:(⟨c,e,.row sz⟩:ak).ch ρ α (0+n)=some ⟨(α n).b,((ah ρ α c).flatMap ae++(α n).tl).toArray,e⟩:=by
   simp only [ak.ch,Nat.zero_add,hh];rfl
  have hq1:aU ρ α 0 s.hp=l1++(⟨(α n).b,((ah ρ α c).flatMap ae++(α n).tl).toArray,e⟩::l2):=by
   rw [q1]
   simp only [Option.bind_some,hchn,Option.toList_some,List.cons_append,List.nil_append]
  have hrest:aU ρ α' 0 (s.hp.set n (some bH))=l1++l2:=by
   have e1:aU ρ α 0 (s.hp.set n (some bH))=l1++l2:=by
    rw [q2];simp [bH,ak.ch]
   rw [← e1]
   refine jn fun k b hb=>?_
   rcases bD hb with ⟨rfl,rfl⟩|⟨_,hb⟩
   ·simp [bH,ak.ch]
   simpa using h5 k b hb
  have hS0:=hI.st
  rw [hq1]at hS0
  have hS1:=hS0.perm List.perm_middle
  rw [hh]at hsm hb'
  exact hfin hrest (fun _=>hS1.O7 hos htp hout hsm) fun c hc=>hS1.PO hos htp hout hsm hc (hb'.imp (fun h=>List.mem_singleton.1 h) id)
 ·-- a new row
  rename_i hrc hen
  split at h
  case h_2=>cases h
  rename_i t ts' hts
  split at h
  case h_2=>cases h
  rename_i e rw' hsl hrw
  split at h
  case h_2=>cases h
  rename_i sz hsz
  split at h
  case isFalse=>cases h
  rename_i h0
  injection h with h1 h2 h3 h4 h5 h6
  subst h1;subst h2;subst h3;subst h4;subst h5;subst h6
  have hnm':bh s nm:=hnm.resolve_left nofun
  obtain⟨as',ha,hP⟩:=(hrel:∃ as',bT C ρ α rw' args' as'∧Fw C g rw' as' sz e v)
  have hxs:∀ α',(⟨[.x sh0.length []],e,.row sz⟩:ak).xs ρ α'=ae v:=fun α'=>by
   simp [ak.xs,ah,V.den,List.getD_eq_getElem?_getD,hv]
  obtain⟨h5,h6⟩:=fO hI hKf hrw ha
  have hup:∀ {W2:World},bp [] W W2→bp (bk (aU ρ α 0 s.hp) (dP a s T)) W W2:=fun h=>⟨h.size,fun b0 hb0 hn=>h.block b0 hb0 ai⟩
  have hcall:=hP W (fun x hx W2 hW2=>nQ (bs:=[]) (ns:=[]) hI hps (fun _ h=>nomatch h) hrw ha (fun m hm hc=>nomatch hc) W2 hW2 x hx) (fun u z cells hk W2 hW2=>hI.st.pers _ (List.mem_append.2 (.inr hps.1)) W2 (hup hW2) _ _ _ hk) (rW hI hrw ha)
  refine oe hop h7 (vs:=(as'.map Arg.v).toArray) ?_ (de hen _ _) (R:=fun u W'=>∃ b' tl',Below W.heap.size W W'∧iP sz u b' e (ae v) tl' W'∧W.heap.size≤b') (hcall.mono fun e W' ⟨h',b',tl',h1,h2⟩=>⟨h',h1,b',tl',h2⟩) ?_
  ·rw [h5]
   exact Array.ext' (af h8)
  rintro u W' ⟨b',tl',hbel,hR,hb'⟩
  refine gR hI hnm' rfl hw hK ⟨b',u,tl'⟩ (fun α' h1 h2 h3 h4=>?_) (fun α' h1=>by simp only [bx,Option.getD_some,V.den,h1])
  rcases hR with ⟨rfl,hcells⟩|⟨len,cap,rfl,hl1,hl2,hlc,hcm,hat⟩
  ·refine⟨?_,h0,.inl ⟨by rw [hxs,hcells],by rw [h1]⟩⟩
   rw [gA (k:=0) hnm'.1 (by simp only [ak.ch,Nat.zero_add,h1]),h4]
   exact hI.st.step hbel
  refine⟨St.perm ?_ (dy (k:=0) hnm'.1 (e:=⟨b',(ae v++tl').toArray,e⟩) (by simp only [ak.ch,Nat.zero_add,h1,hxs])),h0,.inr ⟨len,cap,by rw [h1],by rw [hxs];exact hl1,by rw [hxs,h1];exact hl2,hlc,hcm⟩⟩
  rw [h4]
  exact hI.st.made hbel hat hb'
 cases h
theorem Nr{args:Array Operand}{f:Operand→Value}{x:Value}(h:args.map f=#[x]):∃ p,args=#[p]∧f p=x:=by
 have h1:args.size=1:=by have:=congrArg Array.size h;simpa using this
 refine⟨args[0],?_,?_⟩
 ·apply Array.ext
  ·simp [h1]
  intro i hi hi2
  have:i=0:=ab
  subst this
  rfl
 ·have:=congrArg (fun a=>a[0]?) h;simpa [h1]using this
theorem Ay{kt:TypeId}{k nx:Nat}{ag:Bool}{c:List Value}{x:Value}{l:List Qe}{P:Program}{cc:List Value}{i:Nat}{W:World}(hq:xe P kt k cc x nx l)(hc:c=bV nx l)(hat:W.heap[i]?=some (Ch.obj ⟨i,c.toArray,.map k ag⟩)):W.heap[i]?=some (.map (l.map (Qe.entry ag)).toArray nx):=by
 rw [hat,hc]
 exact congrArg some (lS hq.len)
theorem all_push{k nx:Nat}{l:List Qe}{x:Value}{xs:List Value}(h:∀ e∈l,e.cs.length=k)(hx:xs.length=k):∀ e∈l++[(⟨x,xs,nx⟩:Qe)],e.cs.length=k:=by
 intro e he
 rcases List.mem_append.1 he with he|he
 ·exact h e he
 rw [List.mem_singleton.1 he];exact hx
theorem IY{k nx j:Nat}{l:List Qe}{x:Value}{xs:List Value}(h:∀ e∈l,e.cs.length=k)(hx:xs.length=k):∀ e∈l.set j (⟨x,xs,nx⟩:Qe),e.cs.length=k:=by
 intro e he
 rcases List.mem_or_eq_of_mem_set he with he|he
 ·exact h e he
 rw [he];exact hx
theorem FU{sh0:List Sh}{q:cZ}{args:List V}{sh:Sh}{mk:Option V}{new:Option ak}{wr:Option (Nat×ak)}{vv:List V}{t:TypeId}{n:Nat}{i:V}{up:Bool}{xo io:Operand}{lo hi:Option Operand}(hop:o.op=.slice t xo lo hi none)(hsel:(up=true∧lo=some io∧hi=none)∨(up=false∧lo=none∧hi=some io))(hx:a.eval xo=(V.row n).den ρ α)(hio:a.eval io=i.den ρ α)(h:lV C (cK s.hp vv) t n i up=.df q args sh mk new wr)(hI:aF w0 ps T ρ s a W α){v:Value}(hrel:q.rel C ρ α args v)
 (hw:aW s nm (bx sh0.length sh mk) new wr=true) (hK:∀ a' W',Inv w0 ps T ρ (s.dl nm o.dst (bx sh0.length sh mk) new wr) a' W'→K a' W'):o.wp C.P a W K Q:=by
 unfold lV at h
 split at h
 case h_2=>cases h
 rename_i c e sz sz' hrow hsz
 split at h
 case isFalse=>cases h
 rename_i hs
 subst hs
 injection h with h1 h2 h3 h4 h5 h6
 subst h1;subst h2;subst h3;subst h4;subst h5;subst h6
 have hn:=gm hrow
 obtain⟨h0,hinfo⟩:=eE hI hn
 obtain⟨et,hb1,hb2⟩:=Option.bind_eq_some_iff.1 hsz
 obtain⟨k,hik,hkl⟩:=(hrel:∃ k:Nat,i.den ρ α=.int .i64 (k:Int)∧k*sz'≤(ae ((V.cat c).den ρ α)).length)
 have hcat:ae ((V.cat c).den ρ α)=(ah ρ α c).flatMap ae:=by simp [V.den,ae]
 rw [hcat]at hkl
 obtain⟨A,len,cap,hh,hkn,hnc⟩:∃ A len cap,(α n).h=.slice A len cap∧k≤len∧len≤cap:=by
  rcases hinfo with ⟨hx0,h⟩|⟨len,cap,h,hl,_,hlc,_⟩
  ·refine⟨_,_,_,h,?_,Nat.le_refl _⟩
   rw [hx0,List.length_nil]at hkl
   exact Nat.le_of_mul_le_mul_right ab h0
  refine⟨_,_,_,h,?_,hlc⟩
  rw [hl]at hkl
  exact Nat.le_of_mul_le_mul_right hkl h0
 have hK2:=aB hI hw hK
 have hxh:a.eval xo=.slice A len cap:=hx.trans hh
 rcases hsel with ⟨rfl,rfl,rfl⟩|⟨rfl,rfl,rfl⟩
 ·have hrun:=iF (P:=C.P) (W:=W) (l1:=k) (h1:=len) (m1:=cap) hop hxh (aV hb1) hb2 rfl (by simp [iY,b7,iN,hio,hik,hkn])
  refine bi hrun ?_
  simp only [bx,Option.getD_some,V.den,hh,hik,Mp,if_true,Int.toNat_natCast]at hK2
  exact hK2
 have hrun:=iF (P:=C.P) (W:=W) (l1:=0) (h1:=k) (m1:=cap) hop hxh (aV hb1) hb2 rfl (by simp [iY,b7,iN,hio,hik,show k≤cap by omega])
 refine bi hrun ?_
 have e0:A.map (·.add (0*sz'))=A:=by
  cases A with
  | none=>rfl
  | some ad=>simp [Addr.add]
 rw [e0,ite_self,Nat.sub_zero,Nat.sub_zero]
 simp only [bx,Option.getD_some,V.den,hh,hik,Mp,Bool.false_eq_true,if_false,Int.toNat_natCast]at hK2
 exact hK2
theorem Ln{sh0:List Sh}{q:cZ}{args:List V}{sh:Sh}{mk:Option V}{new:Option ak}{wr:Option (Nat×ak)}{vv:List V}{t:TypeId}{n sza szp:Nat}{i j:V}{p q':Operand}(hop:o.op=.call { callee:=.builtin .append,args:=#[p,q'],argTypes:=#[t,t] }) (hp:a.eval p=(V.pt (.row n) i false sza).den ρ α) (hq:a.eval q'=(V.pt (.row n) j true szp).den ρ α) (h:nH C (cK s.hp vv) nm sh0.length t n i j szp=.df q args sh mk new wr) (hI:aF w0 ps T ρ s a W α) {v:Value} (hv:ρ[sh0.length]?=some v) (hrel:q.rel C ρ α args v)
 (hnm:new=none∨bh s nm) (hw:aW s nm (bx sh0.length sh mk) new wr=true) (hK:∀ a' W',Inv w0 ps T ρ (s.dl nm o.dst (bx sh0.length sh mk) new wr) a' W'→K a' W'):o.wp C.P a W K Q:=by
 unfold nH at h
 split at h
 case h_2=>cases h
 rename_i c e sz e' hrow hsl
 split at h
 case isFalse=>cases h
 rename_i hs
 obtain⟨rfl,hsz,rfl⟩:=hs
 injection h with h1 h2 h3 h4 h5 h6
 subst h1;subst h2;subst h3;subst h4;subst h5;subst h6
 have hn:=gm hrow
 have hnm':bh s nm:=hnm.resolve_left nofun
 have hne:n≠nm:=uc (yg hn) hnm'.1
 obtain⟨h0,hinfo⟩:=eE hI hn
 obtain⟨k,hik,hjk,hkl,hone,rfl⟩:=(hrel:∃ k:Nat,i.den ρ α=.int .i64 (k:Int)∧j.den ρ α=.int .i64 ((k+1:Nat):Int)∧(k+1)*szp≤(ae ((V.cat c).den ρ α)).length∧(∀ u∈ae ((V.cat c).den ρ α),u.oneCell'=true)∧v=.agg ((ae ((V.cat c).den ρ α)).take (k*szp)++(ae ((V.cat c).den ρ α)).drop ((k+1)*szp)).toArray)
 have hcat:ae ((V.cat c).den ρ α)=(ah ρ α c).flatMap ae:=by simp [V.den,ae]
 rw [hcat]at hkl hone hv
 rcases hinfo with ⟨hx0,hh⟩|⟨len,cap,hh,hl1,hl2,hlc,hcm,hmem⟩
 ·rw [hx0,List.length_nil]at hkl
  have:0<(k+1)*szp:=Nat.mul_pos ab h0
  omega
 generalize hxs:(ah ρ α c).flatMap ae=xs at *
 have hkn:k+1≤len:=by
  rw [hl1]at hkl
  exact Nat.le_of_mul_le_mul_right hkl h0
 have hset:(s.hp.set nm (some ⟨[.x sh0.length []],e',.row szp⟩)).set n (some bH)=(s.hp.set n (some bH)).set nm (some ⟨[.x sh0.length []],e',.row szp⟩):=List.set_comm _ _ (fun h=>hne h.symm)
 have hnm2:(s.hp.set n (some bH))[nm]?=some none:=by rw [List.getElem?_set_ne hne];exact hnm'.1
 obtain⟨l1,l2,q1,q2⟩:=cy (ρ:=ρ) (α:=α) (k:=0) hn
 have hchn:(⟨c,e',.row szp⟩:ak).ch ρ α (0+n)=some ⟨(α n).b,(xs++(α n).tl).toArray,e'⟩:=by
  simp only [ak.ch,Nat.zero_add,hh,ak.xs,hxs]
 have hq1:aU ρ α 0 s.hp=l1++(⟨(α n).b,(xs++(α n).tl).toArray,e'⟩::l2):=by
  rw [q1]
  simp only [Option.bind_some,hchn,Option.toList_some,List.cons_append,List.nil_append]
 have hrest:∀ α',(∀ (m:Nat) (c:ak),s.hp[m]?=some (some c)→c.ch ρ α' m=c.ch ρ α m)→aU ρ α' 0 s.hp=aU ρ α 0 s.hp→aU ρ α' 0 (s.hp.set n (some bH))=l1++l2:=by
  intro α' h5 h4
  have e1:aU ρ α 0 (s.hp.set n (some bH))=l1++l2:=by
   rw [q2];simp [bH,ak.ch]
  rw [← e1]
  refine jn fun k b hb=>?_
  rcases bD hb with ⟨rfl,rfl⟩|⟨_,hb⟩
  ·simp [bH,ak.ch]
  simpa using h5 k b hb
 have hS0:=hI.st
 rw [hq1]at hS0
 have hpv:a.eval p=.slice (some ⟨(α n).b,0,none⟩) k cap:=by
  rw [hp];simp only [V.den,hh,hik,Mp,Bool.false_eq_true,if_false,Int.toNat_natCast]
 have hqv:a.eval q'=.slice (if cap=k+1 then some ⟨(α n).b,0,none⟩else some ⟨(α n).b,(k+1)*szp,none⟩) (len-(k+1)) (cap-(k+1)):=by
  rw [hq];simp only [V.den,hh,hjk,Mp,if_true,Int.toNat_natCast,Option.map_some,Addr.add_lit,Nat.zero_add]
 have hnl:(xs.drop ((k+1)*szp)).length=(len-(k+1))*szp:=by
  rw [List.length_drop,hl1,Nat.sub_mul]
 have hSrc:Src C.P szp t (.slice (if cap=k+1 then some ⟨(α n).b,0,none⟩else some ⟨(α n).b,(k+1)*szp,none⟩) (len-(k+1)) (cap-(k+1))) (len-(k+1)) (xs.drop ((k+1)*szp)) W:=by
  by_cases hck:cap=k+1
  ·rw [if_pos hck]
   refine Src.ofSlice W (aV hsl) _ _ _ _ hnl (fun j u hu=>?_) fun u hu=>hone u (List.mem_of_mem_drop hu)
   have:(xs.drop ((k+1)*szp)).length=0:=by rw [hnl,show len-(k+1)=0 by omega,Nat.zero_mul]
   have:=(List.getElem?_eq_some_iff.1 hu).1
   omega
  rw [if_neg hck]
  refine Src.ofSlice W (aV hsl) _ _ _ _ hnl (fun j u hu=>?_) fun u hu=>hone u (List.mem_of_mem_drop hu)
  rw [List.getElem?_drop]at hu
  rw [Addr.add_lit]
  refine hS0.cell (List.mem_append_right _ (List.mem_cons_self ..)) ?_
  have hj:=(List.getElem?_eq_some_iff.1 hu).1
  rw [List.getElem?_toArray,List.getElem?_append_left hj]
  exact hu
 have hsz2:k*szp+(len-(k+1))*szp≤(xs++(α n).tl).toArray.size:=by
  rw [List.size_toArray,hl2,← Nat.add_mul]
  exact Nat.mul_le_mul_right _ ab
 have hsp:cO (xs++(α n).tl).toArray (k*szp) (xs.drop ((k+1)*szp)).toArray=(xs.take (k*szp)++xs.drop ((k+1)*szp)++(xs++(α n).tl).drop (k*szp+(len-(k+1))*szp)).toArray:=by
  unfold cO
  have hkx:k*szp≤xs.length:=by
   rw [hl1];exact Nat.mul_le_mul_right _ ab
  rw [List.toList_toArray,List.toList_toArray,List.size_toArray,hnl,List.take_append_of_le_length hkx]
 refine pQ hop hpv hqv hSrc (aV hsl) hsz ab hS0 (qp l2 l1) hsz2 fun W' hS=>?_
 have hxs2:∀ α',(⟨[.x sh0.length []],e',.row szp⟩:ak).xs ρ α'=xs.take (k*szp)++xs.drop ((k+1)*szp):=fun α'=>by
  simp [ak.xs,ah,V.den,List.getD_eq_getElem?_getD,hv,ae]
 have hlx:(xs.take (k*szp)++xs.drop ((k+1)*szp)).length=(k+(len-(k+1)))*szp:=by
  rw [List.length_append,hnl,List.length_take,Nat.min_eq_left (by rw [hl1];exact Nat.mul_le_mul_right _ ab),Nat.add_mul]
 refine jt hI hnm' hw hK ⟨(α n).b,.slice (some ⟨(α n).b,0,none⟩) (k+(len-(k+1))) cap,(xs++(α n).tl).drop (k*szp+(len-(k+1))*szp)⟩ (fun α' h1 h2 h3 h5 h4=>⟨?_,h0,.inr ⟨k+(len-(k+1)),cap,by rw [h1],?_,?_,ab,hcm⟩⟩) rfl fun α' h1=>by simp only [bx,Option.getD_some,V.den,h1]
 ·rw [hset]
  refine St.perm ?_ (dy (k:=0) hnm2 (e:=⟨(α n).b,(xs.take (k*szp)++xs.drop ((k+1)*szp)++(xs++(α n).tl).drop (k*szp+(len-(k+1))*szp)).toArray,e'⟩) (by simp only [ak.ch,Nat.zero_add,h1,hxs2]))
  rw [hrest α' h5 h4,← hsp]
  exact hS.perm List.perm_middle
 ·rw [hxs2];exact hlx
 rw [hxs2,h1,List.length_append,hlx,List.length_drop,hl2,← Nat.add_mul]
 have:=Nat.mul_le_mul_right szp (show k+(len-(k+1))≤cap by omega)
 omega
theorem Jj{sh0:List Sh}{q:cZ}{args:List V}{sh:Sh}{mk:Option V}{new:Option ak}{wr:Option (Nat×ak)}{vs:List V}(hsh:sh0<+:s.sh)(hC:C.Ok)(hps:me C w0 ps)(hvs:o.op.operands.toList.mapM s.ev=some vs)(h:kW C sh0 nm o.op vs (s.ja o.op vs)=.df q args sh mk new wr)(hI:aF w0 ps T ρ s a W α){v:Value}(hv:ρ[sh0.length]?=some v)(hrel:q.rel C ρ α args v)(hfit:sh.fit v=true)
 (hnm:new=none∨bh s nm) (hw:aW s nm (bx sh0.length sh mk) new wr=true) (hK:∀ a' W',Inv w0 ps T ρ (s.dl nm o.dst (bx sh0.length sh mk) new wr) a' W'→K a' W'):o.wp C.P a W K Q:=by
 have he:=cN hI.good hI.fm hvs
 have hKf:Kf C W:=hI.fact hps.1
 have hL:=yd hI o.op vs
 have hvD:ρ.getD sh0.length undef=v:=by rw [List.getD_eq_getElem?_getD,hv];rfl
 have hu:mk=none→v=(bx sh0.length sh mk).den ρ α:=fun e=>by
  subst e
  exact(iV ρ α _ sh [] v (af hvD) hfit).symm
 have hsee:bX o.op=false→∃ vv,s.ja o.op vs=cK s.hp vv:=fun hs=>⟨fS s.hp o.op vs,by simp [S.ja,ey,hs]⟩
 generalize hop:o.op=op at *
 unfold kW at h
 split at h
 ·-- a package variable
  rename_i t x ad
  simp [Op.operands,ah,V.den]at he
  split at h
  ·rename_i b n hr hs
   obtain⟨vv,hbv⟩:=hsee rfl
   rw [hbv]at h
   obtain⟨rfl,rfl⟩:=um h
   obtain⟨rfl,ad',len,cap,kk,j,hs',hi',hb⟩:=Cb hI hKf h hrel
   simp only [V.den,Value.slice.injEq,Option.some.injEq,Value.int.injEq]at hs' hi'
   obtain⟨rfl,rfl,rfl⟩:=hs'
   obtain⟨rfl,rfl⟩:=hi'
   have hz:∀ (x:Addr),x.add ((0:Int).toNat*n+0)=x:=fun x=>by simp [Addr.add]
   rw [hz]at hb
   have hK':=aB hI hw hK
   rw [← hu rfl]at hK'
   rcases hb with ⟨rfl,hcell⟩|⟨rfl,cs,rfl,hsz,hcells⟩
   ·exact cx hop he hr hcell hK'
   exact eF hop he hr hcells (by rw [hs,hsz]) hK'
  cases h
 ·-- load of an own array's part
  rename_i t x n oo l cc i sz o'
  simp [Op.operands,ah,V.den]at he
  split at h
  ·rename_i b k B hr hs hB
   obtain⟨vv,hbv⟩:=hsee rfl
   rw [hbv]at hB
   obtain⟨hbn,hbk⟩:=dp hB
   have hat:=hI.st.at_ (hI.dS hbn hbk)
   split at h
   ·rename_i hc
    obtain⟨hc1,hc2⟩:=hc
    have hplen:((B.c.drop oo).take (l*sz)).length=l*sz:=aw
    have hcat:ae ((V.cat [.a ((B.c.drop oo).take (l*sz))]).den ρ α)=((ah ρ α B.c).drop oo).take (l*sz):=by
     simp [V.den,ah,ae,aE,List.map_take,List.map_drop]
    have hrd:Rd W sz (some ⟨(α n).b,oo,none⟩) l (((ah ρ α B.c).drop oo).take (l*sz)):=Rd.j8 hat rfl (by simp [aq];omega)
    have hDl:(((ah ρ α B.c).drop oo).take (l*sz)).length=l*sz:=by simp [aq];omega
    split at h
    ·rename_i hb
     subst hb
     injection h with h1 h2 h3 h4 h5 h6
     subst h1;subst h2;subst h3;subst h4;subst h5;subst h6
     have hr2:jl (ae ((V.cat [.a ((B.c.drop oo).take (l*sz))]).den ρ α)).length sz (i.den ρ α)∧idxOf (i.den ρ α)*sz+o'+k≤(ae ((V.cat [.a ((B.c.drop oo).take (l*sz))]).den ρ α)).length∧v=.agg ((ae ((V.cat [.a ((B.c.drop oo).take (l*sz))]).den ρ α)).drop (idxOf (i.den ρ α)*sz+o') |>.take k).toArray:=hrel
     rw [hcat]at hr2
     obtain⟨hbd,hlt,hvv⟩:=hr2
     obtain⟨kk,j,hi',hj0,hj1⟩:=nJ hbd
     rw [hi']at he hlt hvv
     simp only [zp,idxOf]at he hlt hvv
     have hK':=aB hI hw hK
     rw [← hu rfl,hvv]at hK'
     exact eF hop he hr (Rd.m9 hrd hlt) (by rw [hs];simp only [List.size_toArray,List.length_take,List.length_drop];congr 1;simp only [List.length_take,List.length_drop]at hlt;omega) hK'
    rename_i hb
    injection h with h1 h2 h3 h4 h5 h6
    subst h1;subst h2;subst h3;subst h4;subst h5;subst h6
    have hr2:jl (ae ((V.cat [.a ((B.c.drop oo).take (l*sz))]).den ρ α)).length sz (i.den ρ α)∧(ae ((V.cat [.a ((B.c.drop oo).take (l*sz))]).den ρ α))[idxOf (i.den ρ α)*sz+o']?=some v:=hrel
    rw [hcat]at hr2
    obtain⟨hbd,hcell⟩:=hr2
    obtain⟨kk,j,hi',hj0,hj1⟩:=nJ hbd
    rw [hi']at he hcell
    simp only [zp,idxOf]at he hcell
    have hK':=aB hI hw hK
    rw [← hu rfl]at hK'
    obtain⟨ad',e',hcl⟩:=Rd.in hrd (List.getElem?_eq_some_iff.1 hcell).1
    cases e'
    exact cx hop he (by simpa using (show rowOf C.P t=some false by rw [hr];simp at hb;rw [hb])) (hcl _ _ hcell) hK'
   cases h
  cases h
 ·-- store into an own array
  rename_i t x y n oo l cc i sz o' vv
  simp [Op.operands,ah,V.den]at he
  obtain⟨he1,he2⟩:=he
  split at h
  ·rename_i B k hB hs
   obtain⟨vv0,hbv⟩:=hsee rfl
   rw [hbv]at hB
   obtain⟨hbn,hbk⟩:=dp hB
   split at h
   ·rename_i hc
    obtain⟨hc1,hc2,hc3,hc4,hc5⟩:=hc
    injection h with h1 h2 h3 h4 h5 h6
    subst h1;subst h2;subst h3;subst h4;subst h5;subst h6
    have hcat:ae ((V.cat [.a ((B.c.drop oo).take (l*sz))]).den ρ α)=((ah ρ α B.c).drop oo).take (l*sz):=by
     simp [V.den,ah,ae,aE,List.map_take,List.map_drop]
    have hDl:(((ah ρ α B.c).drop oo).take (l*sz)).length=l*sz:=by simp [aq];omega
    have hr2:jl (ae ((V.cat [.a ((B.c.drop oo).take (l*sz))]).den ρ α)).length sz (i.den ρ α)∧o'+vv.cells.length≤sz∧v=.agg ((ae ((V.cat [.a ((B.c.drop oo).take (l*sz))]).den ρ α)).take (idxOf (i.den ρ α)*sz+o')++ah ρ α vv.cells++(ae ((V.cat [.a ((B.c.drop oo).take (l*sz))]).den ρ α)).drop (idxOf (i.den ρ α)*sz+o'+vv.cells.length)).toArray:=hrel
    rw [hcat]at hr2
    obtain⟨hbd,hlt,hvv⟩:=hr2
    obtain⟨kk,j,hi',hj0,hj1⟩:=nJ hbd
    rw [hi']at he1 hvv
    simp only [zp,idxOf,cJ]at he1 hvv
    rw [hDl,Nat.mul_div_cancel _ hc2]at hj1
    have hjm:(j.toNat+1)*sz≤l*sz:=Nat.mul_le_mul_right _ ab
    rw [Nat.add_mul]at hjm
    have hql:j.toNat*sz+o'+vv.cells.length≤l*sz:=ab
    have hxs:=w5 (ρ:=ρ) (α:=α) (u:=undef) (path:=[]) (m:=sh0.length) (N:=l*sz) (cs:=(((ah ρ α B.c).drop oo).take (l*sz)).take (j.toNat*sz+o')++ah ρ α vv.cells++(((ah ρ α B.c).drop oo).take (l*sz)).drop (j.toNat*sz+o'+vv.cells.length)) (by rw [List.foldl_nil,hvD,hvv]) (by simp only [List.length_append,List.length_take,List.length_drop,aq];omega)
    simp only [List.nil_append]at hxs
    have hup:mj (α n).b (ah ρ α B.c).toArray B.t (cO (ah ρ α B.c).toArray (oo+(j.toNat*sz+o')) (ah ρ α vv.cells).toArray) (aU ρ α 0 s.hp) (aU ρ α 0 (s.hp.set n (some ⟨cl B.c oo ((List.range (l*sz)).map fun j=>V.x sh0.length [j]),B.t,B.k⟩))):=by
     refine gQ (k:=0) hbn (by simp only [ak.ch,hbk,Nat.zero_add]) ?_
     simp only [ak.ch,hbk,Nat.zero_add]
     congr 2
     unfold cl cO
     rw [ea,ea,hxs]
     have hms:=rh (D:=ah ρ α B.c) (vs:=ah ρ α vv.cells) (o:=oo) (q:=j.toNat*sz+o') (k:=vv.cells.length) (L:=l*sz) hql (by simp [aq];omega) (aq ..)
     simp only [List.length_map,List.length_range]
     rw [show ah ρ α (B.c.take oo)=(ah ρ α B.c).take oo by simp [aE,List.map_take],show ah ρ α (B.c.drop (oo+l*sz))=(ah ρ α B.c).drop (oo+l*sz) by simp [aE,List.map_drop],hms]
     simp [aq,Nat.add_assoc]
    have hrow:(⟨cl B.c oo ((List.range (l*sz)).map fun j=>V.x sh0.length [j]),B.t,B.k⟩:ak).bB ρ α n:=by simp [ak.bB,hbk]
    have hown:(⟨cl B.c oo ((List.range (l*sz)).map fun j=>V.x sh0.length [j]),B.t,B.k⟩:ak).own=true:=by simp [ak.own,hbk]
    have hones:(ah ρ α vv.cells).toArray.all (·.oneCell')=true:=qj hI.good hsh α hc5
    cases hA:vv.tX
    ·have hcs:vv.cells=[vv]:=by cases vv<;>first|rfl|simp [V.tX]at hA
     rw [hcs]at hup hones hql hc3
     simp at hc3
     subst hc3
     have h1c:(vv.den ρ α).oneCell'=true:=by simpa [ah]using hones
     refine km hop he1 he2 hI.st hup ?_ hs (by simp [aq]at hql ⊢;omega) h1c fun W' hS=>gI hI hbn hrow hown hw hK hS rfl
     rw [lh (by simp [aq]at hql ⊢;omega)]
     rfl
    obtain⟨cs,rfl⟩:∃ cs,vv=.a cs:=by cases vv<;>simp [V.tX]at hA;exact⟨_,rfl⟩
    simp only [V.cells]at *
    refine ko hop he1 he2 hI.st hup ?_ ?_ hones fun W' hS=>gI hI hbn hrow hown hw hK hS rfl
    ·rw [hs];simp [aq,hc3]
    simp [aq]at hql ⊢;omega
   cases h
  cases h
 ·-- an element's address in a package variable
  rename_i t x y ad i
  simp [Op.operands,ah]at he
  split at h
  ·rename_i len e hf
   split at h
   ·rename_i sz hs
    obtain⟨rfl,rfl⟩:=lW h
    obtain⟨rfl,ad',len',cap,kk,j,hs',hi',h0,h1⟩:=lK hL h hrel
    simp only [V.den,Value.slice.injEq,Option.some.injEq]at hs'
    obtain⟨rfl,rfl,rfl⟩:=hs'
    have hK':=aB hI hw hK
    simp only [bx,Option.getD_some,V.den,hi',zp,Nat.add_zero]at hK'
    exact jL hop (by rw [he.1];rfl) (he.2.trans hi') hf h0 h1 hs hK'
   cases h
  cases h
 ·-- an element's address in an own array
  rename_i t x y n oo i path
  simp [Op.operands,ah]at he
  split at h
  ·split at h
   ·rename_i len e hf
    split at h
    ·rename_i sz hs
     obtain⟨rfl,rfl⟩:=lW h
     obtain⟨rfl,ad',len',cap,kk,j,hs',hi',h0,h1⟩:=lK hL h hrel
     simp only [V.den,Value.slice.injEq,Option.some.injEq]at hs'
     obtain⟨rfl,rfl,rfl⟩:=hs'
     have hK':=aB hI hw hK
     have hi2:(V.x i path).den ρ α=.int kk j:=hi'
     simp only [bx,Option.getD_some]at hK'
     rw [show(V.ep (.sl n oo len len) (.x i path) sz 0).den ρ α=.pointer (some ((⟨(α n).b,oo,none⟩:Addr).add (j.toNat*sz))) by simp only [V.den]at hi2 ⊢;rw [hi2];simp [zp]]at hK'
     exact jL hop (by rw [he.1];rfl) (he.2.trans hi2) hf h0 h1 hs hK'
    cases h
   cases h
  cases h
 ·-- an element's address in an own slice
  rename_i t x y n oo l cc i path
  simp [Op.operands,ah]at he
  split at h
  ·split at h
   ·rename_i e hf
    split at h
    ·rename_i sz hs
     obtain⟨rfl,rfl⟩:=lW h
     obtain⟨rfl,ad',len',cap,kk,j,hs',hi',h0,h1⟩:=lK hL h hrel
     simp only [V.den,Value.slice.injEq,Option.some.injEq]at hs'
     obtain⟨rfl,rfl,rfl⟩:=hs'
     have hK':=aB hI hw hK
     have hi2:(V.x i path).den ρ α=.int kk j:=hi'
     simp only [bx,Option.getD_some]at hK'
     rw [show(V.ep (.sl n oo l cc) (.x i path) sz 0).den ρ α=.pointer (some ((⟨(α n).b,oo,none⟩:Addr).add (j.toNat*sz))) by simp only [V.den]at hi2 ⊢;rw [hi2];simp [zp]]at hK'
     exact fj hop (by rw [he.1];rfl) (he.2.trans hi2) (aV hf) h0 h1 hs rfl hK'
    cases h
   cases h
  cases h
 ·-- an element of an array's value
  rename_i t x y cs i path
  simp [Op.operands,ah]at he
  split at h
  ·split at h
   ·rename_i len e hf
    split at h
    ·rename_i hr hs
     split at h
     ·rename_i hlen
      injection h with h1 h2 h3 h4 h5 h6
      subst h1;subst h2;subst h3;subst h4;subst h5;subst h6
      have hr2:jl (ae ((V.cat [.a cs]).den ρ α)).length 1 ((V.x i path).den ρ α)∧(ae ((V.cat [.a cs]).den ρ α))[idxOf ((V.x i path).den ρ α)*1+0]?=some v:=hrel
      have hcat:ae ((V.cat [.a cs]).den ρ α)=ah ρ α cs:=by simp [V.den,ah,ae]
      rw [hcat]at hr2
      obtain⟨hbd,hcell⟩:=hr2
      obtain⟨kk,j,hi',hj0,hj1⟩:=nJ hbd
      rw [hi']at hcell
      simp only [idxOf,Nat.mul_one,Nat.add_zero]at hcell
      rw [aq,hlen,Nat.div_one]at hj1
      have hK':=aB hI hw hK
      rw [← hu rfl]at hK'
      exact og hop (by rw [he.1];rfl) (he.2.trans hi') hf hj0 hj1 hr hs (by rw [dH];exact hcell) hK'
     cases h
    cases h
   cases h
  cases h
 ·-- makeSlice
  split at h
  ·split at h
   ·split at h<;>cases h
   cases h
  cases h
 ·-- bytes of a string
  rename_i src dst y x
  simp [Op.operands,ah]at he
  split at h
  ·rename_i e hsu hsl
   split at h
   ·rename_i heu
    injection h with h1 h2 h3 h4 h5 h6
    subst h1;subst h2;subst h3;subst h4;subst h5;subst h6
    obtain⟨b,hb,rfl⟩:=(hrel:∃ b:ByteArray,x.den ρ α=.string b∧v=.agg (b.data.toList.map fun x=>Value.int .u8 (x.toNat:Int)).toArray)
    have hrun:=run_bytes_of_string (P:=C.P) W src dst e b hsu (aV hsl) heu
    have hnm':bh s nm:=hnm.resolve_left nofun
    have hxs:∀ α',(⟨[.x sh0.length []],0,.ext 1⟩:ak).xs ρ α'=b.data.toList.map fun x=>Value.int .u8 (x.toNat:Int):=fun α'=>by
     simp [ak.xs,ah,V.den,List.getD_eq_getElem?_getD,hv,ae]
    have hsz:b.data.toList.length=b.size:=by rw [Array.length_toList];rfl
    have hbel:Below W.heap.size W (W.drew.alloc (.cells (bytesRow b (grownCap W b.size 0 e)) e ((bytesRow b (grownCap W b.size 0 e)).size,(bytesRow b (grownCap W b.size 0 e)).size+1))):=(Below.refl _ _).drew.alloc (Nat.le_refl _) _
    have hc:(execOp a.eval o).run C.P W=.ok (.value (.slice (some ⟨W.heap.size,0,none⟩) b.size (grownCap W b.size 0 e))) (W.drew.alloc (.cells (bytesRow b (grownCap W b.size 0 e)) e ((bytesRow b (grownCap W b.size 0 e)).size,(bytesRow b (grownCap W b.size 0 e)).size+1))):=by
     unfold execOp
     simp only [hop,he.trans hb,Sem.run_bind,Sem.run_pure,Result.andThen_ok,hrun]
    unfold Oper.wp
    rw [hc]
    refine jX (b:=⟨[.x sh0.length []],0,.ext 1⟩) hI hnm' rfl hw hK ⟨0,.slice (some ⟨W.heap.size,0,none⟩) b.size (grownCap W b.size 0 e),[]⟩ (hI.step hbel).st ab ⟨_,_,_,rfl,by rw [hxs];simp,grownCap_ge W b.size 0 e,fun _=>rfl⟩ (fun W2 hW2=>?_) fun α' h1 _=>by simp only [bx,Option.getD_some,V.den,h1]
    rw [hxs]
    refine⟨⟨?_,grownCap_ge W b.size 0 e⟩,.inl fun ad n' c' e' _=>?_⟩
    ·have hR:Rd (W.drew.alloc (.cells (bytesRow b (grownCap W b.size 0 e)) e ((bytesRow b (grownCap W b.size 0 e)).size,(bytesRow b (grownCap W b.size 0 e)).size+1))) 1 (some ⟨W.heap.size,0,none⟩) b.size (b.data.toList.map fun x=>Value.int .u8 (x.toNat:Int)):=by
      refine⟨ai,fun _=>⟨_,rfl,by show W.heap.size<(W.heap.push _).size;rw [Array.size_push];exact Nat.lt_succ_self _,fun j u hu=>?_⟩⟩
      have hadd:(⟨W.heap.size,0,none⟩:Addr).add j=⟨W.heap.size,j,none⟩:=by unfold Addr.add;split<;>simp_all
      rw [hadd]
      unfold World.cell?
      have hh:(W.drew.alloc (.cells (bytesRow b (grownCap W b.size 0 e)) e ((bytesRow b (grownCap W b.size 0 e)).size,(bytesRow b (grownCap W b.size 0 e)).size+1))).heap[W.heap.size]?=some (.cells (bytesRow b (grownCap W b.size 0 e)) e ((bytesRow b (grownCap W b.size 0 e)).size,(bytesRow b (grownCap W b.size 0 e)).size+1)):=by
       show(W.heap.push _)[W.heap.size]?=_
       simp
      simp only [hh,Option.isSome_none,Bool.false_eq_true,if_false]
      have hj:=(List.getElem?_eq_some_iff.1 hu).1
      simp only [List.length_map]at hj
      unfold bytesRow
      rw [Array.getElem?_append_left (af hj)]
      simpa using hu
     refine hR.same hW2 fun ad e' hm=>?_
     cases e'
     exact absurd (hI.st.gL hm).2 (Nat.lt_irrefl _)
    cases e'
    exact hI.st.b5.size
   cases h
  split at h
  case isFalse=>cases h
  rename_i hb2
  obtain⟨vv0,hbv⟩:=hsee rfl
  rw [hbv]at h
  unfold vZ at h
  split at h
  ·-- a row's bytes
   rename_i n
   split at h
   case h_2=>cases h
   rename_i c' e' sz' hrow
   split at h
   case isFalse=>cases h
   rename_i hs1
   subst hs1
   injection h with h1 h2 h3 h4 h5 h6
   subst h1;subst h2;subst h3;subst h4;subst h5;subst h6
   obtain⟨kk,hrn,hkk⟩:=ee hrow
   have hrd:=oK hI hrn hkk
   have hl:=(hI.rows n _ hrn).2.len
   have hl:∃ A len cap,(α n).h=.slice A len cap:=by
    rcases hkk with rfl|rfl
    ·obtain⟨_,A,len,cap,h,_⟩:=hl;exact⟨A,len,cap,h⟩
    obtain⟨_,A,len,cap,h,_⟩:=hl;exact⟨A,len,cap,h⟩
   obtain⟨A,k,cap,hyd⟩:=hl
   rw [hyd]at hrd
   have hRd:Rd W 1 A k ((ah ρ α c').flatMap ae):=hrd.1
   have hcat:ae ((V.cat c').den ρ α)=(ah ρ α c').flatMap ae:=by simp [V.den,ae]
   obtain⟨l,hcl,rfl⟩:=(hrel:∃ l:List UInt8,ae ((V.cat c').den ρ α)=l.map (fun b=>Value.int .u8 (b.toNat:Int))∧v=.string ⟨l.toArray⟩)
   rw [hcat]at hcl
   rw [hcl]at hRd
   have hK2:=aB hI hw hK
   rw [← hu rfl]at hK2
   exact bi (wB hop (he.trans hyd) hRd hb2) hK2
  ·-- an own part
   rename_i n oo l cc
   split at h
   case h_2=>cases h
   rename_i B hB
   split at h
   case isFalse=>cases h
   rename_i hc1
   injection h with h1 h2 h3 h4 h5 h6
   subst h1;subst h2;subst h3;subst h4;subst h5;subst h6
   obtain⟨hbn,hbk⟩:=dp hB
   have hat:=hI.st.at_ (hI.dS hbn hbk)
   have hrd:Rd W 1 (some ⟨(α n).b,oo,none⟩) l (((ah ρ α B.c).drop oo).take (l*1)):=Rd.j8 hat rfl (by simp [aq];omega)
   rw [Nat.mul_one]at hrd
   have hcat:ae ((V.a ((B.c.drop oo).take l)).den ρ α)=((ah ρ α B.c).drop oo).take l:=by
    simp [V.den,ae,aE,List.map_take,List.map_drop]
   obtain⟨l',hcl,rfl⟩:=(hrel:∃ l':List UInt8,ae ((V.a ((B.c.drop oo).take l)).den ρ α)=l'.map (fun b=>Value.int .u8 (b.toNat:Int))∧v=.string ⟨l'.toArray⟩)
   rw [hcat]at hcl
   rw [hcl]at hrd
   have hK2:=aB hI hw hK
   rw [← hu rfl]at hK2
   exact bi (wB hop he hrd hb2) hK2
  ·rename_i i path
   injection h with h1 h2 h3 h4 h5 h6
   subst h1;subst h2;subst h3;subst h4;subst h5;subst h6
   obtain⟨l,A,n,c,hKc,hxd,rfl⟩:=(hrel:∃ (l:List UInt8) (A:Option Addr) (n c:Nat),C.K ((V.x i path).den ρ α) 1 (l.map fun b=>Value.int .u8 (b.toNat:Int))∧(V.x i path).den ρ α=.slice A n c∧v=.string ⟨l.toArray⟩)
   have hRd:Rd W 1 A n (l.map fun b=>Value.int .u8 (b.toNat:Int)):=by have:=hKf _ _ _ hKc;rw [hxd]at this;exact this.1
   have hK2:=aB hI hw hK
   rw [← hu rfl]at hK2
   exact bi (wB hop (he.trans hxd) hRd hb2) hK2
  cases h
 ·-- copy
  rename_i c n oo l cc y
  split at h
  ·rename_i t t' hcal hat
   obtain⟨vv0,hbv⟩:=hsee (by simp [bX,hcal])
   rw [hbv]at h
   exact MG hop hcal hat he h hps hI hv hrel hnm hw hK
  ·rename_i t t' hcal hat
   split at h
   ·rename_i e B hsl hB
    obtain⟨vv0,hbv⟩:=hsee (by simp [bX,hcal])
    rw [hbv]at hB
    obtain⟨hbn,hbk⟩:=dp hB
    split at h
    ·rename_i hsz
     split at h
     ·rename_i hlen
      split at h
      ·split at h
       ·split at h<;>cases h
       cases h
      ·rename_i n'
       split at h
       ·rename_i c' e' sz' hrow
        split at h
        ·rename_i hs1
         subst hs1
         injection h with h1 h2 h3 h4 h5 h6
         subst h1;subst h2;subst h3;subst h4;subst h5;subst h6
         obtain⟨p,q',rfl,hp,hq⟩:∃ p q',c={ callee:=.builtin .copy,args:=#[p,q'],argTypes:=#[t,t'] }∧a.eval p=.slice (some ⟨(α n).b,oo,none⟩) l cc∧a.eval q'=(α n').h:=by
          obtain⟨cal,ar,at'⟩:=c
          simp only at hcal hat
          subst hcal
          have hat2:at'=#[t,t']:=by rw [← Array.toArray_toList (xs:=at'),hat]
          subst hat2
          simp only [Op.operands,Call.operands,ah,V.den]at he
          have hpq:∃ p q',ar=#[p,q']∧a.eval p=.slice (some ⟨(α n).b,oo,none⟩) l cc∧a.eval q'=(α n').h:=pj (Array.ext' (af he))
          obtain⟨p,q',rfl,hp,hq⟩:=hpq
          exact⟨p,q',rfl,hp,hq⟩
         obtain⟨kk,hrn,hkk⟩:=ee hrow
         have hrd:=oK hI hrn hkk
         have hl:=(hI.rows n' _ hrn).2.len
         have hl:∃ A len cap,(α n').h=.slice A len cap:=by
          rcases hkk with rfl|rfl
          ·obtain⟨_,A,len,cap,h,_⟩:=hl;exact⟨A,len,cap,h⟩
          obtain⟨_,A,len,cap,h,_⟩:=hl;exact⟨A,len,cap,h⟩
         obtain⟨A,k,cap,hyd⟩:=hl
         rw [hyd]at hrd
         have hRd:Rd W 1 A k ((ah ρ α c').flatMap ae):=hrd.1
         have hcat:ae ((V.cat c').den ρ α)=(ah ρ α c').flatMap ae:=by simp [V.den,ae]
         obtain⟨hone,rfl⟩:=(hrel:(∀ u∈ae ((V.cat c').den ρ α),u.oneCell'=true)∧v=.tuple #[.int .i64 ((Nat.min (ae ((V.cat c').den ρ α)).length l:Nat):Int),.agg ((ae ((V.cat c').den ρ α)).take l++(ae ((V.a ((B.c.drop oo).take l)).den ρ α)).drop (Nat.min (ae ((V.cat c').den ρ α)).length l)).toArray])
         have hkl:((ah ρ α c').flatMap ae).length=k:=by have:=hRd.1;omega
         have hD:ae ((V.a ((B.c.drop oo).take l)).den ρ α)=((ah ρ α B.c).drop oo).take l:=by
          simp [V.den,ae,aE,List.map_take,List.map_drop]
         exact FT hop hp (hq.trans hyd) hsl hsz hbn hbk hlen hI hvD hRd (by rw [← hcat];exact hone) (by rw [hD,hcat,hkl]) hw hK
        cases h
       cases h
      ·rename_i i path
       injection h with h1 h2 h3 h4 h5 h6
       subst h1;subst h2;subst h3;subst h4;subst h5;subst h6
       obtain⟨p,q',rfl,hp,hq⟩:∃ p q',c={ callee:=.builtin .copy,args:=#[p,q'],argTypes:=#[t,t'] }∧a.eval p=.slice (some ⟨(α n).b,oo,none⟩) l cc∧a.eval q'=(V.x i path).den ρ α:=by
        obtain⟨cal,ar,at'⟩:=c
        simp only at hcal hat
        subst hcal
        have hat2:at'=#[t,t']:=by rw [← Array.toArray_toList (xs:=at'),hat]
        subst hat2
        simp only [Op.operands,Call.operands,ah,V.den]at he
        have hpq:∃ p q',ar=#[p,q']∧a.eval p=.slice (some ⟨(α n).b,oo,none⟩) l cc∧a.eval q'=path.foldl comp (ρ.getD i undef):=pj (Array.ext' (af he))
        obtain⟨p,q',rfl,hp,hq⟩:=hpq
        exact⟨p,q',rfl,hp,hq⟩
       obtain⟨cells,A,k,cap,hKc,hyd,hone,rfl⟩:=(hrel:∃ cells A k cap,C.K ((V.x i path).den ρ α) 1 cells∧(V.x i path).den ρ α=.slice A k cap∧(∀ u∈cells,u.oneCell'=true)∧v=.tuple #[.int .i64 ((Nat.min k l:Nat):Int),.agg (cells.take (l*1)++(ae ((V.a ((B.c.drop oo).take l)).den ρ α)).drop (Nat.min k l*1)).toArray])
       have hRd:Rd W 1 A k cells:=by have:=hKf _ _ _ hKc;rw [hyd]at this;exact this.1
       have hD:ae ((V.a ((B.c.drop oo).take l)).den ρ α)=((ah ρ α B.c).drop oo).take l:=by
        simp [V.den,ae,aE,List.map_take,List.map_drop]
       exact FT hop hp (hq.trans hyd) hsl hsz hbn hbk hlen hI hvD hRd hone (by rw [hD,Nat.mul_one,Nat.mul_one]) hw hK
      cases h
     cases h
    cases h
   cases h
  cases h
 ·-- a part of a row
  rename_i t x hi n i
  split at h
  ·simp [Op.operands,ah]at he
   obtain⟨he1',he2'⟩:=he
   obtain⟨vv0,hbv⟩:=hsee rfl
   rw [hbv]at h
   exact FU hop (.inr ⟨rfl,rfl,rfl⟩) he1' he2' h hI hrel hw hK
  ·split at h
   ·split at h<;>cases h
   cases h
  cases h
 ·rename_i t x lo n i
  split at h
  ·simp [Op.operands,ah]at he
   obtain⟨he1',he2'⟩:=he
   obtain⟨vv0,hbv⟩:=hsee rfl
   rw [hbv]at h
   exact FU hop (.inl ⟨rfl,rfl,rfl⟩) he1' he2' h hI hrel hw hK
  cases h
 ·-- an element taken out of a row
  rename_i c n i sza n' j szp
  split at h
  case h_2=>cases h
  rename_i t t' hcal hats
  split at h
  case isFalse=>cases h
  rename_i hc
  obtain⟨rfl,rfl⟩:=hc
  obtain⟨vv0,hbv⟩:=hsee (by simp [bX,hcal])
  rw [hbv]at h
  obtain⟨cal,ar,at'⟩:=c
  simp only at hcal hats
  subst hcal
  have hat2:at'=#[t',t']:=by rw [← Array.toArray_toList (xs:=at'),hats]
  subst hat2
  simp only [Op.operands,Call.operands,ah]at he
  obtain⟨p,q',rfl,hp,hq⟩:∃ p q',ar=#[p,q']∧a.eval p=(V.pt (.row n') i false sza).den ρ α∧a.eval q'=(V.pt (.row n') j true szp).den ρ α:=pj (Array.ext' (af he))
  exact Ln hop hp hq h hI hv hrel hnm hw hK
 ·split at h<;>cases h
 ·-- zeros
  rename_i c y
  split at h
  ·rename_i t t' hcal hat
   split at h
   ·rename_i kk e hui hsl
    split at h
    ·rename_i sz by' z hsz hby hz
     split at h
     ·rename_i hc
      obtain⟨h0,hzs⟩:=hc
      injection h with h1 h2 h3 h4 h5 h6
      subst h1;subst h2;subst h3;subst h4;subst h5;subst h6
      have hnm':bh s nm:=hnm.resolve_left nofun
      obtain⟨cal,ar,at'⟩:=c
      simp only at hcal hat
      subst hcal
      have hat2:at'=#[t,t']:=by rw [← Array.toArray_toList (xs:=at'),hat]
      subst hat2
      simp only [Op.operands,Call.operands,ah]at he
      have hpq:∃ p q',ar=#[p,q']∧a.eval p=(V.k (.slice none 0 0)).den ρ α∧a.eval q'=y.den ρ α:=pj (Array.ext' (af he))
      obtain⟨p,q',rfl,hp,hq⟩:=hpq
      obtain⟨k,L,hy,hL0,hL1,hL2,rfl⟩:=(hrel:∃ k L,y.den ρ α=.int k L∧0<L∧L≤70368744177664∧L*(by':Int)≤140737488355328∧v=.agg (madeCells z.cells (L.toNat*sz)))
      refine Kl hop hp (hq.trans hy) (aV hsl) hui hsz hz hzs hby hL0 hL1 hL2 hI.st fun k' cap Z W' hS hl hcap hmax=>?_
      have hxs:∀ α',(⟨[.x sh0.length []],e,.row sz⟩:ak).xs ρ α'=(madeCells z.cells (L.toNat*sz)).toList:=fun α'=>by
       simp [ak.xs,ah,V.den,List.getD_eq_getElem?_getD,hv,ae]
      refine gR (b:=⟨[.x sh0.length []],e,.row sz⟩) hI hnm' rfl hw hK ⟨k',.slice (some ⟨k',0,none⟩) L.toNat cap,Z⟩ (fun α' h1 h2 h3 h4=>⟨St.perm ?_ (dy (k:=0) hnm'.1 (e:=⟨k',((madeCells z.cells (L.toNat*sz)).toList++Z).toArray,e⟩) ?_),h0,.inr ⟨L.toNat,cap,by rw [h1],by rw [hxs];simp [madeCells],by rw [hxs,h1];exact hl,hcap,hmax⟩⟩) fun α' h1=>by simp only [bx,Option.getD_some,V.den,h1]
      ·rw [h4];exact hS
      simp only [ak.ch,Nat.zero_add,h1,hxs]
     cases h
    cases h
   cases h
  cases h
 ·-- a call of a method value that writes its receiver
  rename_i c g n args'
  split at h
  ·rename_i f hcal
   obtain⟨vv0,hbv⟩:=hsee (by simp [bX,hcal])
   rw [hbv]at h
   unfold wa at h
   split at h
   case h_2=>cases h
   rename_i L b rw' hcp hB hrw hen
   split at h
   case isFalse=>cases h
   rename_i hc
   obtain⟨hlen,hdis⟩:=hc
   injection h with h1 h2 h3 h4 h5 h6
   subst h1;subst h2;subst h3;subst h4;subst h5;subst h6
   obtain⟨hbn,hbk⟩:=dp hB
   have hl:=nP hrw
   obtain⟨as',ha,hP⟩:=(hrel:∃ as',bT C ρ α rw' ((args'++b.c).take rw'.length) as'∧xh C g as' (ah ρ α ((args'++b.c).drop rw'.length)) b.t v)
   rw [List.take_left' hl.symm]at ha
   rw [List.drop_left' hl.symm]at hP
   obtain⟨h5,h6⟩:=fO hI hKf hrw ha
   have hbm:∀ b0∈[(α n).b],∃ (m:Nat) (B:ak) (e:Ch),s.hp[m]?=some (some B)∧B.ch ρ α m=some e∧b0=e.id∧m∈[n]:=fun b0 hb0=>by
    obtain rfl:=List.mem_singleton.1 hb0
    exact⟨n,b,⟨(α n).b,(ah ρ α b.c).toArray,b.t⟩,hbn,by simp only [ak.ch,hbk],rfl,List.mem_cons_self ..⟩
   have hsub:∀ b0∈[(α n).b],b0∈bk (aU ρ α 0 s.hp) (dP a s T):=fun b0 hb0=>by
    obtain rfl:=List.mem_singleton.1 hb0
    exact List.mem_append.2 (.inl (List.mem_map.2 ⟨_,hI.dS hbn hbk,rfl⟩))
   have hup:∀ {W2:World},bp [(α n).b] W W2→bp (bk (aU ρ α 0 s.hp) (dP a s T)) W W2:=fun h=>⟨h.size,fun b0 hb0 hn=>h.block b0 hb0 fun hm=>hn (hsub b0 hm)⟩
   have hcall:=hP W (α n).b (fun x hx W2 hW2=>nQ hI hps hbm hrw ha (fun m hm hc=>by
    have:=List.all_eq_true.1 hdis m hm
    simp only [Bool.not_eq_true',List.contains_eq_mem,decide_eq_false_iff_not]at this
    exact this hc) W2 hW2 x hx) (fun u z cells hk W2 hW2=>hI.st.pers _ (List.mem_append.2 (.inr hps.1)) W2 (hup hW2) _ _ _ hk) (hI.st.at_ (hI.dS hbn hbk))
   obtain⟨cal,ar,at'⟩:=c
   simp only at hcal
   subst hcal
   simp only [Op.operands,Call.operands,ah,V.den]at he
   simp at he
   obtain⟨h7,h8⟩:=he
   have hcs:ah ρ α ((List.range L).map fun j=>V.x sh0.length [j])=ae v:=by
    obtain⟨cs,rfl,hsz⟩:∃ cs:Array Value,v=.agg cs∧cs.size=L:=by
     cases v<;>simp only [Sh.fit,Bool.false_eq_true]at hfit
     rename_i cs
     simp only [Bool.and_eq_true,beq_iff_eq,Array.length_toList]at hfit
     exact⟨cs,rfl,hfit.1⟩
    have:=w5 (ρ:=ρ) (α:=α) (u:=undef) (path:=[]) (m:=sh0.length) (N:=L) (cs:=cs.toList) (by rw [List.foldl_nil,hvD]) (af hsz)
    simp only [List.nil_append]at this
    rw [this]
    rfl
   refine oe hop h7 (vs:=(Value.pointer (some ⟨(α n).b,0,none⟩)::as'.map Arg.v).toArray) ?_ (de hen _ _) (R:=fun u W'=>u=.tuple #[]∧W'.os=W.os∧W'.tape=W.tape∧W'.output=W.output∧bp [(α n).b] W W'∧W'.heap[(α n).b]?=some (.cells (ae v).toArray b.t (0,0))) (hcall.mono fun e W' ⟨h1,h2⟩=>⟨_,h1,rfl,h2⟩) ?_
   ·rw [h5]
    exact Array.ext' (by simp [h8])
   rintro u W' ⟨rfl,hos,htp,hout,hsm,hbl⟩
   have hupd:mj (α n).b (ah ρ α b.c).toArray b.t (ae v).toArray (aU ρ α 0 s.hp) (aU ρ α 0 (s.hp.set n (some ⟨(List.range L).map fun j=>V.x sh0.length [j],b.t,b.k⟩))):=gQ (k:=0) hbn (by simp only [ak.ch,hbk,Nat.zero_add]) (by simp only [ak.ch,hbk,Nat.zero_add,hcs])
   exact gI hI hbn (by simp [ak.bB,hbk]) (by simp [ak.own,hbk]) hw hK (hI.st.wrote hupd hos htp hout hsm hbl) rfl
  cases h
 ·-- bits turned over
  simp [Op.operands,ah]at he
  injection h with h1 h2 h3 h4 h5 h6
  subst h1;subst h2;subst h3;subst h4;subst h5;subst h6
  have hK':=aB hI hw hK
  rw [← hu rfl]at hK'
  exact bi (J2 hop he hrel) hK'
 ·-- a string's bytes appended
  rename_i c n y
  split at h
  case h_2=>cases h
  rename_i t t' hcal hat
  obtain⟨vv0,hbv⟩:=hsee (by simp [bX,hcal])
  rw [hbv]at h
  unfold vY at h
  split at h
  case h_2=>cases h
  rename_i e hut hsl
  split at h
  case h_2=>cases h
  rename_i by' z hsz hby hz
  split at h
  case h_2=>cases h
  rename_i cc b5 hold
  split at h
  case isFalse=>cases h
  rename_i hc
  obtain⟨hzs,hbyl⟩:=hc
  injection h with h1 h2 h3 h4 h5 h6
  subst h1;subst h2;subst h3;subst h4;subst h5;subst h6
  have hnm':bh s nm:=hnm.resolve_left nofun
  obtain⟨cal,ar,at'⟩:=c
  simp only at hcal hat
  subst hcal
  have hat2:at'=#[t,t']:=by rw [← Array.toArray_toList (xs:=at'),hat]
  subst hat2
  simp only [Op.operands,Call.operands,ah]at he
  have hpq:∃ p q',ar=#[p,q']∧a.eval p=(V.row n).den ρ α∧a.eval q'=y.den ρ α:=pj (Array.ext' (af he))
  obtain⟨p,q',rfl,hp,hq⟩:=hpq
  obtain⟨b,hyb,hb1,hb2,rfl⟩:=(hrel:∃ b:ByteArray,y.den ρ α=.string b∧((ae ((V.cat cc).den ρ α)).length+b.size)*by'≤140737488355328∧(ae ((V.cat cc).den ρ α)).length+b.size≤140737488355328∧v=.agg (b.data.toList.map fun x=>Value.int .u8 (x.toNat:Int)).toArray)
  have hcat:ae ((V.cat cc).den ρ α)=(ah ρ α cc).flatMap ae:=by simp [V.den,ae]
  rw [hcat]at hb1 hb2
  exact BN (cells:=byteCells b) (m:=b.size) hop hp (hq.trans hyb) (Src.ofString W hut b) (by rw [byteCells_length,Nat.mul_one]) hsl hsz hby hz hold ab hzs hbyl (by simp [V.den,List.getD_eq_getElem?_getD,hv,byteCells]) (by rw [byteCells_length,Nat.div_one];exact hb1) (by rw [byteCells_length,Nat.div_one];exact hb2) hI hnm' hw hK
 ·split at h<;>cases h
 ·unfold AH at h
  split at h
  ·cases h
  ·split at h
   ·cases h
   split at h<;>cases h
  cases h
 ·-- a value of an interface asked for its type
  rename_i x xt ta i path
  have hu0:=hu
  simp [Op.operands,ah]at he
  unfold AJ at h
  split at h
  ·cases h
  ·rename_i d z hni hud hz
   split at h
   ·rename_i hone
    injection h with h1 h2 h3 h4 h5 h6
    subst h1;subst h2;subst h3;subst h4;subst h5;subst h6
    have hK':=aB hI hw hK
    rw [← hu0 rfl]at hK'
    obtain⟨t,c,z',hx,hz',rfl⟩:=hrel
    rw [hz]at hz'
    cases hz'
    by_cases ht:t=ta
    ·subst ht
     simp only [if_true,decide_true]at hK'
     exact bi (lc hop (he.trans hx) hud (fun ms e=>hni ms e)) hK'
    simp only [if_neg ht,decide_eq_false ht]at hK'
    exact bi (ld hop (he.trans hx) hud (fun ms e=>hni ms e) ht hz) hK'
   cases h
  cases h
 ·split at h<;>cases h
 ·-- a look into a map
  rename_i t x1 x2 ok n x
  simp [Op.operands,ah,V.den]at he
  obtain⟨he1,he2⟩:=he
  unfold wb at h
  split at h
  case h_2=>cases h
  rename_i kt sz b z c bt k ag hm hp
  split at h
  case isFalse=>cases h
  rename_i hc
  obtain⟨rfl,rfl⟩:=hc
  injection h with h1 h2 h3 h4 h5 h6
  subst h1;subst h2;subst h3;subst h4;subst h5;subst h6
  obtain⟨vv0,hbv⟩:=hsee rfl
  rw [hbv]at hp
  have hn:=qh hp
  obtain⟨e,hu1,hr,hsz,hz⟩:=nE hm
  have hat:=hI.st.KY (dk (k:=0) hn (e:=⟨(α n).b,((ah ρ α c).flatMap ae).toArray,.map k ag⟩) (by simp only [ak.ch,Nat.zero_add,ak.xs]))
  obtain⟨nx,l,hq,hvv⟩:=(hrel:∃ nx l,xe C.P kt k (ae ((V.cat c).den ρ α)) (x.den ρ α) nx l∧(((∀ q∈l,q.key≠x.den ρ α)∧v=if ok then .tuple #[z,.bool false]else z)∨∃ q∈l,q.key=x.den ρ α∧v=if ok then .tuple #[tP ag q.cs,.bool true]else tP ag q.cs))
  have hcat:ae ((V.cat c).den ρ α)=(ah ρ α c).flatMap ae:=by simp [V.den,ae]
  replace hat:=Ay hq (hcat.symm.trans hq.cells) hat
  obtain⟨G,hlaw,hkeys,hkv⟩:=hq.law
  have hK2:=aB hI hw hK
  rw [← hu rfl]at hK2
  have hrun:(Instr.lookup t (.map (some (α n).b)) (x.den ρ α) ok).run C.P W=.ok v W:=by
   rcases EG (W:=W) (z:=z) (ok:=ok) hu1 hlaw hz hkeys hkv hat with ⟨hno,hrun⟩|⟨j,q,hj,hk,hrun⟩
   ·rcases hvv with ⟨_,rfl⟩|⟨q,hq1,hq2,_⟩
    ·exact hrun
    exact(hno q hq1 hq2).elim
   rcases hvv with ⟨hno,_⟩|⟨q',hq1,hq2,rfl⟩
   ·exact(hno q (List.mem_of_getElem? hj) hk).elim
   obtain⟨j',hj'⟩:=List.getElem?_of_mem hq1
   have hjj:=kP hq.nod hj hj' (hk.trans hq2.symm)
   subst hjj
   rw [hj]at hj'
   cases hj'
   exact hrun
  refine bi ?_ hK2
  simp only [execOp,hop,he1,he2,Sem.run_bind,Sem.run_pure,hrun,Result.andThen_ok]<;>rfl
 ·-- a store into a map
  rename_i t x1 x2 x3 n x vv
  simp [Op.operands,ah,V.den]at he
  obtain⟨he1,he2,he3⟩:=he
  unfold wg at h
  split at h
  case h_2=>cases h
  rename_i kt sz b z c bt k ag hm hp
  split at h
  case isFalse=>cases h
  rename_i hc
  obtain⟨rfl,rfl,hA,hcl0⟩:=hc
  injection h with h1 h2 h3 h4 h5 h6
  subst h1;subst h2;subst h3;subst h4;subst h5;subst h6
  obtain⟨vv0,hbv⟩:=hsee rfl
  rw [hbv]at hp
  have hn:=qh hp
  obtain⟨e,hu1,hr,hsz,hz⟩:=nE hm
  have hat:=hI.st.KY (dk (k:=0) hn (e:=⟨(α n).b,((ah ρ α c).flatMap ae).toArray,.map k ag⟩) (by simp only [ak.ch,Nat.zero_add,ak.xs]))
  obtain⟨nx,l,hq,hvv⟩:=(hrel:∃ nx l,xe C.P kt k (ae ((V.cat c).den ρ α)) (x.den ρ α) nx l∧(((∀ q∈l,q.key≠x.den ρ α)∧v=.agg (bV (nx+1) (l++[⟨x.den ρ α,ah ρ α vv.cells,nx⟩])).toArray)∨∃ j q,l[j]?=some q∧q.key=x.den ρ α∧v=.agg (bV nx (l.set j ⟨x.den ρ α,ah ρ α vv.cells,q.born⟩)).toArray))
  have hcat:ae ((V.cat c).den ρ α)=(ah ρ α c).flatMap ae:=by simp [V.den,ae]
  replace hat:=Ay hq (hcat.symm.trans hq.cells) hat
  obtain⟨G,hlaw,hkeys,hkv⟩:=hq.law
  have hvd:vv.den ρ α=tP ag (ah ρ α vv.cells):=by
   subst hA
   cases vv<;>simp [V.tX,V.cells,tP,ah,V.den]
  have hlen:(ah ρ α vv.cells).length=k:=by rw [aq,hcl0]
  obtain⟨nx',l',rfl,hl',hrun⟩:∃ (nx':Nat) (l':List Qe),v=.agg (bV nx' l').toArray∧(∀ e∈l',e.cs.length=k)∧(Instr.mapUpdate t (.map (some (α n).b)) (x.den ρ α) (tP ag (ah ρ α vv.cells))).run C.P W=.ok () (ChangeMaps.setBlock W (α n).b (.map (l'.map (Qe.entry ag)).toArray nx')):=by
   rcases Bs (W:=W) (xs:=ah ρ α vv.cells) hu1 hlaw hkeys hkv hat with ⟨hno,hrun⟩|⟨j,q,hj,hk,hrun⟩
   ·rcases hvv with ⟨_,rfl⟩|⟨j,q,hq1,hq2,_⟩
    ·exact⟨_,_,rfl,all_push hq.len hlen,hrun⟩
    exact(hno q (List.mem_of_getElem? hq1) hq2).elim
   rcases hvv with ⟨hno,_⟩|⟨j',q',hj',hq2,rfl⟩
   ·exact(hno q (List.mem_of_getElem? hj) hk).elim
   have hjj:=kP hq.nod hj hj' (hk.trans hq2.symm)
   subst hjj
   rw [hj]at hj'
   cases hj'
   exact⟨_,_,rfl,IY hq.len hlen,hrun⟩
  have hup:mj (α n).b ((ah ρ α c).flatMap ae).toArray (.map k ag) (bV nx' l').toArray (aU ρ α 0 s.hp) (aU ρ α 0 (s.hp.set n (some ⟨[.x sh0.length []],bt,.mp k ag⟩))):=by
   refine gQ (k:=0) hn (by simp only [ak.ch,Nat.zero_add,ak.xs]) ?_
   simp [ak.ch,ak.xs,ah,V.den,List.getD_eq_getElem?_getD,hv,ae]
  have hS:=hI.st.NH hup
  have hrun2:(execOp a.eval o).run C.P W=.ok .skip { W with heap:=W.heap.setIfInBounds (α n).b (Ch.obj ⟨(α n).b,(bV nx' l').toArray,.map k ag⟩) }:=by
   rw [show Ch.obj ⟨(α n).b,(bV nx' l').toArray,.map k ag⟩=.map (l'.map (Qe.entry ag)).toArray nx' from lS hl']
   simp only [execOp,hop,he1,he2,he3.trans hvd,Sem.run_bind,Sem.run_pure,hrun,Result.andThen_ok]
   rfl
  unfold Oper.wp
  rw [hrun2]
  exact gI hI hn (by simp [ak.bB]) rfl hw hK hS rfl
 ·-- an entry taken out of a map
  rename_i c n x
  unfold rE at h
  split at h
  case h_2=>cases h
  rename_i t t' hcal hats
  split at h
  case h_2=>cases h
  rename_i kt sz b z cc bt k ag hm hp
  injection h with h1 h2 h3 h4 h5 h6
  subst h1;subst h2;subst h3;subst h4;subst h5;subst h6
  obtain⟨vv0,hbv⟩:=hsee (by simp [bX,hcal])
  rw [hbv]at hp
  have hn:=qh hp
  obtain⟨e,hu1,hr,hsz,hz⟩:=nE hm
  have hat:=hI.st.KY (dk (k:=0) hn (e:=⟨(α n).b,((ah ρ α cc).flatMap ae).toArray,.map k ag⟩) (by simp only [ak.ch,Nat.zero_add,ak.xs]))
  obtain⟨cal,ar,at'⟩:=c
  simp only at hcal hats
  subst hcal
  have hat0:at'[0]?=some t:=by rw [← Array.getElem?_toList,hats];rfl
  simp only [Op.operands,Call.operands,ah]at he
  obtain⟨p,q',rfl,hp1,hp2⟩:∃ p q',ar=#[p,q']∧a.eval p=(V.mapV n).den ρ α∧a.eval q'=x.den ρ α:=pj (Array.ext' (af he))
  obtain⟨nx,l,hq,hvv⟩:=(hrel:∃ nx l,xe C.P kt k (ae ((V.cat cc).den ρ α)) (x.den ρ α) nx l∧(((∀ q∈l,q.key≠x.den ρ α)∧v=.agg (bV nx l).toArray)∨∃ j q,l[j]?=some q∧q.key=x.den ρ α∧v=.agg (bV nx (l.eraseIdx j)).toArray))
  have hcat:ae ((V.cat cc).den ρ α)=(ah ρ α cc).flatMap ae:=by simp [V.den,ae]
  replace hat:=Ay hq (hcat.symm.trans hq.cells) hat
  obtain⟨G,hlaw,hkeys,hkv⟩:=hq.law
  obtain⟨l',rfl,hl',hrun⟩:∃ (l':List Qe),v=.agg (bV nx l').toArray∧(∀ e∈l',e.cs.length=k)∧(Builtin.delete_ at' o.type #[.map (some (α n).b),x.den ρ α]).run C.P W=.ok (.tuple #[]) (ChangeMaps.setBlock W (α n).b (.map (l'.map (Qe.entry ag)).toArray nx)):=by
   rcases Hr (W:=W) (ty:=o.type) hat0 hu1 hlaw hkeys hkv hat with ⟨hno,hrun⟩|⟨j,q,hj,hk,hrun⟩
   ·rcases hvv with ⟨_,rfl⟩|⟨j,q,hq1,hq2,_⟩
    ·exact⟨_,rfl,hq.len,hrun⟩
    exact(hno q (List.mem_of_getElem? hq1) hq2).elim
   rcases hvv with ⟨hno,_⟩|⟨j',q',hj',hq2,rfl⟩
   ·exact(hno q (List.mem_of_getElem? hj) hk).elim
   have hjj:=kP hq.nod hj hj' (hk.trans hq2.symm)
   subst hjj
   exact⟨_,rfl,fun e he=>hq.len e (List.mem_of_mem_eraseIdx he),hrun⟩
  have hup:mj (α n).b ((ah ρ α cc).flatMap ae).toArray (.map k ag) (bV nx l').toArray (aU ρ α 0 s.hp) (aU ρ α 0 (s.hp.set n (some ⟨[.x sh0.length []],bt,.mp k ag⟩))):=by
   refine gQ (k:=0) hn (by simp only [ak.ch,Nat.zero_add,ak.xs]) ?_
   simp [ak.ch,ak.xs,ah,V.den,List.getD_eq_getElem?_getD,hv,ae]
  have hS:=hI.st.NH hup
  have hset:ChangeMaps.setBlock W (α n).b (.map (l'.map (Qe.entry ag)).toArray nx)={ W with heap:=W.heap.setIfInBounds (α n).b (Ch.obj ⟨(α n).b,(bV nx l').toArray,.map k ag⟩) }:=by
   rw [show Ch.obj ⟨(α n).b,(bV nx l').toArray,.map k ag⟩=.map (l'.map (Qe.entry ag)).toArray nx from lS hl']
   rfl
  rw [hset]at hrun
  unfold Oper.wp execOp
  have hp1':a.eval p=.map (some (α n).b):=hp1
  simp only [hop,resolve,invoke,builtin,Sem.run_bind,Sem.run_pure,Result.andThen_ok,List.map_toArray,List.map_cons,List.map_nil,hp1',hp2,hrun]
  exact gI hI hn (by simp [ak.bB]) rfl hw hK hS (by simp [bx,V.den,ah])
 ·-- how many entries
  rename_i c n
  have hs':∃ vv,s.ja o.op [.mapV n]=cK s.hp vv:=⟨fS s.hp o.op [.mapV n],by simp [S.ja,ey,vO]⟩
  rw [hop]at hs'
  obtain⟨vv0,hbv⟩:=hs'
  rw [hbv]at h
  unfold wc at h
  split at h
  case h_2=>cases h
  rename_i t hcal hats
  split at h
  case h_2=>cases h
  rename_i mp cc bt k ag hm hp
  injection h with h1 h2 h3 h4 h5 h6
  subst h1;subst h2;subst h3;subst h4;subst h5;subst h6
  have hn:=qh hp
  obtain⟨kt,sz,b,z⟩:=mp
  obtain⟨e,hu1,hr,hsz,hz⟩:=nE hm
  have hat:=hI.st.KY (dk (k:=0) hn (e:=⟨(α n).b,((ah ρ α cc).flatMap ae).toArray,.map k ag⟩) (by simp only [ak.ch,Nat.zero_add,ak.xs]))
  obtain⟨cal,ar,at'⟩:=c
  simp only at hcal hats
  subst hcal
  have hat2:at'=#[t]:=by rw [← Array.toArray_toList (xs:=at'),hats]
  subst hat2
  simp only [Op.operands,Call.operands,ah]at he
  obtain⟨nx,l,hcl,hl,rfl⟩:=(hrel:∃ nx l,ae ((V.cat cc).den ρ α)=bV nx l∧(∀ e∈l,e.cs.length=k)∧v=.int .i64 ((l.length:Nat):Int))
  have hcat:ae ((V.cat cc).den ρ α)=(ah ρ α cc).flatMap ae:=by simp [V.den,ae]
  have hat3:W.heap[(α n).b]?=some (.map (l.map (Qe.entry ag)).toArray nx):=by
   rw [hat,hcat.symm.trans hcl];exact congrArg some (lS hl)
  obtain⟨p,rfl,hp1⟩:∃ p,ar=#[p]∧a.eval p=(V.mapV n).den ρ α:=Nr (Array.ext' (af he))
  have hp1':a.eval p=.map (some (α n).b):=hp1
  have hrun:(Builtin.len_ #[t] o.type #[.map (some (α n).b)]).run C.P W=.ok (.int .i64 ((l.length:Nat):Int)) W:=by
   simp [Builtin.len_,run_underlying hu1,MapKept.run_getObj_map hat3,goInt,Result.andThen]
  have hK2:=aB hI hw hK
  rw [← hu rfl]at hK2
  unfold Oper.wp execOp
  simp only [hop,resolve,invoke,builtin,Sem.run_bind,Sem.run_pure,Result.andThen_ok,List.map_toArray,List.map_cons,List.map_nil,hp1',hrun]
  exact hK2
 ·-- a call that hands back a row of one's own
  rename_i c g args'
  split at h
  case h_2=>cases h
  rename_i f hcal
  obtain⟨vv0,hbv⟩:=hsee (by simp [bX,hcal])
  rw [hbv]at h
  obtain⟨cal,ar,at'⟩:=c
  simp only at hcal
  subst hcal
  simp only [Op.operands,Call.operands,ah,V.den]at he
  simp at he
  obtain⟨h7,h8⟩:=he
  exact NI hop h7 (af h8) h hps hI hv hrel hnm hw hK
 cases h
theorem FZ{sh0:List Sh}{q:cZ}{args:List V}{sh:Sh}{mk:Option V}{new:Option ak}{wr:Option (Nat×ak)}{vs:List V}(hsh:sh0<+:s.sh)(hC:C.Ok)(hps:me C w0 ps)(hvs:o.op.operands.toList.mapM s.ev=some vs)(h:dQ C sh0 nm o.op vs (s.ja o.op vs)=.df q args sh mk new wr)(hI:aF w0 ps T ρ s a W α){v:Value}(hv:ρ[sh0.length]?=some v)(hrel:q.rel C ρ α args v)(hfit:sh.fit v=true)
 (hnm:new=none∨bh s nm) (hw:aW s nm (bx sh0.length sh mk) new wr=true) (hK:∀ a' W',Inv w0 ps T ρ (s.dl nm o.dst (bx sh0.length sh mk) new wr) a' W'→K a' W'):o.wp C.P a W K Q:=by
 rcases rH h with ⟨h1,_⟩|⟨_,h2⟩
 ·exact Jj hsh hC hps hvs h1 hI hv hrel hfit hnm hw hK
 exact Jl hsh hC hps hvs h2 hI hv hrel hfit hnm hw hK
theorem Kr{q:cZ}{args:List V}{sh:Sh}{mk:Option V}{new:Option ak}{wr:Option (Nat×ak)}{vs:List V}(hC:C.Ok)(hps:me C w0 ps)(hvs:o.op.operands.toList.mapM s.ev=some vs)(h:dQ C s.sh nm o.op vs (s.ja o.op vs)=.df q args sh mk new wr)(hI:aF w0 ps T ρ s a W α){v:Value}(hrel:q.rel C (ρ++[v]) α args v)(hv:sh.fit v=true)
 (hnm:new=none∨bh s nm) (hw:aW (s.ext sh) nm (bx s.sh.length sh mk) new wr=true) (hK:∀ a' W',Inv w0 ps T (ρ++[v]) ((s.ext sh).dl nm o.dst (bx s.sh.length sh mk) new wr) a' W'→K a' W'):o.wp C.P a W K Q:=by
 refine FZ (s:=s.ext sh) (sh0:=s.sh) (vs:=vs) (q:=q) (args:=args) (sh:=sh) (mk:=mk) (new:=new) (wr:=wr) (v:=v) ⟨[sh],rfl⟩ hC hps hvs h (hI.ext hv) ?_ hrel hv hnm hw hK
 rw [hI.good.len]
 simp
theorem yp{bs:List (Nat×Option ak)}{op:Op}{vs args:List V}{g:FuncId}{rw:List Rw}{sh:Sh}(h:ri C bs op vs=some (g,rw,args,sh)):∃ c f,op=.call c∧c.callee=.value f∧vs=.f (.func g) [] []::args∧C.nsh g=some sh∧ew C.P bs c.argTypes.toList args=some rw∧enters C.P g=true∧sh.ti []=[]:=by
 unfold ri at h
 split at h
 ·rename_i c g' args'
  split at h
  ·rename_i f sh' rw' hcal hsh hrw hen
   split at h
   ·rename_i hs
    cases h
    exact⟨c,f,rfl,hcal,rfl,hsh,hrw,hen,List.isEmpty_iff.1 hs⟩
   cases h
  cases h
 cases h
theorem aF.more(hI:aF w0 ps T ρ s a W α){ps':List (World→Prop)}(h:∀ p∈ps',p∈ps∨∀ W',bp (bk (aU ρ α 0 s.hp) (dP a s T)) W W'→p W'):aF w0 ps' T ρ s a W α:=by
 refine⟨hI.defers,hI.good,hI.wf,hI.fm,hI.lO,?_,hI.rows,hI.lens⟩
 refine⟨hI.st.b5,hI.st.dS,hI.st.own,hI.st.nodup,fun p hp W' hW=>?_⟩
 rcases List.mem_append.1 hp with hp|hp
 ·exact hI.st.pers p (List.mem_append.2 (.inl hp)) W' hW
 rcases h p hp with h|h
 ·exact hI.st.pers p (List.mem_append.2 (.inr h)) W' hW
 exact h W' hW
theorem aF.plus(hI:aF w0 ps T ρ s a W α)(hps:me C w0 ps){N:List Arg}(hN:∀ W',bp (bk (aU ρ α 0 s.hp) (dP a s T)) W W'→∀ y∈N,y.rd W'∧fV C.nb y.v):aF w0 (Kf (C.plus N)::NF (C.plus N)::ps) T ρ s a W α:=by
 refine hI.more fun p hp=>?_
 rcases List.mem_cons.1 hp with rfl|hp
 ·refine .inr fun W' hW s' z xs hk=>?_
  have hk:C.K s' z xs∨⟨s',z,xs⟩∈N:=hk
  rcases hk with hk|hk
  ·exact hI.st.pers _ (List.mem_append.2 (.inr hps.1)) W' hW _ _ _ hk
  exact(hN W' hW _ hk).1
 rcases List.mem_cons.1 hp with rfl|hp
 ·exact .inr fun W' hW y hy=>hN W' hW y hy
 exact .inl hp
theorem me.plus(hps:me C w0 ps)(N:List Arg):me (C.plus N) w0 (Kf (C.plus N)::NF (C.plus N)::ps):=⟨List.mem_cons_self ..,hps.2.1,hps.2.2.1,hps.2.2.2.1,.inr (List.mem_cons_of_mem _ (List.mem_cons_self ..))⟩
theorem me.Ca(hps:me C w0 ps)(hI:aF w0 ps T ρ s a W α):∀ W',bp (bk (aU ρ α 0 s.hp) (dP a s T)) W W'→∀ y∈C.N,y.rd W'∧fV C.nb y.v:=fun W' hW y hy=>by
 rcases hps.2.2.2.2 with h|h
 ·rw [h]at hy;cases hy
 exact hI.st.pers _ (List.mem_append.2 (.inr h)) W' hW y hy
theorem FJ{g:FuncId}{rw:List Rw}{args:List V}{sh:Sh}{vs:List V}{Q':Value→List Arg→Prop}(hC:C.Ok)(hps:me C w0 ps)(hvs:o.op.operands.toList.mapM s.ev=some vs)(h:ri C (s.ja o.op vs) o.op vs=some (g,rw,args,sh))(hI:aF w0 ps T ρ s a W α)(hq:∃ as',bT C ρ α rw args as'∧C.Rn C.K g as' Q')
 (hw:aW (s.ext sh) nm (bx s.sh.length sh none) none none=true) (hK:∀ v N a' W',sh.fit v=true→Q' v N→Inv w0 (Kf (C.plus (N++C.N))::NF (C.plus (N++C.N))::ps) T (ρ++[v]) ((s.ext sh).dl nm o.dst (bx s.sh.length sh none) none none) a' W'→K a' W'):o.wp C.P a W K Q:=by
 obtain⟨c,f,hop,hcal,rfl,hsh,hrw,hen,hsls⟩:=yp h
 have he:=cN hI.good hI.fm hvs
 obtain⟨as',ha,hR⟩:=hq
 have hKf:Kf C W:=hI.fact hps.1
 rw [show s.ja o.op (.f (.func g) [] []::args)=cK s.hp (fS s.hp o.op (.f (.func g) [] []::args)) by simp [S.ja,hop,ey,bX,hcal]]at hrw
 obtain⟨h5,h6⟩:=fO hI hKf hrw ha
 have hcall:=hC.n g sh hsh C.K as' Q' W hR h6 hKf
 rw [h5]at hcall
 rw [hop]at he
 simp only [Op.operands,Call.operands,hcal,ah,V.den]at he
 simp at he
 obtain⟨h7,h8⟩:=he
 obtain⟨cal,ar,at'⟩:=c
 simp only at hcal h8
 subst hcal
 refine iM hop h7 (vs:=(ah ρ α args).toArray) ?_ (de hen _ _) (R:=fun u W'=>Below W.heap.size W W'∧∃ N,sh.fit u=true∧Q' u N∧∀ y∈N,y.rd W'∧fV W.heap.size y.v) (hcall.mono fun e W' ⟨hb,v,N,he,hf,hQ,hN⟩=>⟨v,he,hb,N,hf,hQ,hN⟩) ?_
 ·exact Array.ext' (af h8)
 rintro u W' ⟨hb,N,hfit,hQ,hN⟩
 have hA:=hI.step hb
 have hlt:∀ b∈bk (aU ρ α 0 s.hp) (dP a s T),b<W.heap.size:=fun b hm=>(hI.st.gL hm).2
 have hA2:=hA.plus hps (N:=N++C.N) fun W2 hW2 y hy=>by
  rcases List.mem_append.1 hy with hy|hy
  ·obtain⟨h1,h2⟩:=hN y hy
   refine⟨?_,fun ad n c e hn=>Nat.le_trans (Nat.le_trans hps.2.2.2.1 hI.st.b5.size) (h2 ad n c e hn)⟩
   exact wq h1 hW2 h2 hlt
  exact hps.Ca hA W2 hW2 y hy
 have hu:u=(bx s.sh.length sh none).den (ρ++[u]) α:=by
  simp only [bx,Option.getD_none]
  exact(iV (ρ++[u]) α _ sh [] u (by rw [hI.good.len];simp [List.getD_eq_getElem?_getD]) hfit).symm
 have hfin:=aB (s:=s.ext sh) (o:=o) (K:=K) (nm:=nm) (v:=bx s.sh.length sh none) (hA2.ext hfit) hw fun a' W' h=>hK u N a' W' hfit hQ h
 rw [← hu]at hfin
 exact hfin
end
end SX
namespace SX
inductive Tree where
 | df (q:cZ) (args:List V) (sh:Sh) (t:Tree)
 | br (i:Nat) (path:List Nat) (t e:Tree)
 | sp (i:Nat) (path:List Nat) (l:List Tree)
 | ret (v:V) (hp:List (Option ak)) (stk:List (List (Option V)))
 | loop (vals:List V) (shs:List Sh) (t:Tree)
 | again (lvl:Nat) (vals:List V)
 | bad (why:Nat) (o:List Op)
inductive Pos where
 | s (d:Nat)
 | c (n k:Nat)
 | f (k d:Nat)
 | g (k:Nat) (ds:List Nat)
 deriving Inhabited,DecidableEq
inductive HK where
 | one
 | ag (n:Nat)
 | ext (sz:Nat)
 | row (sz:Nat) (e:TypeId)
 | any
 deriving Inhabited,DecidableEq
structure kx where
 fn:FuncId
 reg:Nat
 pos:List (Pos×HK)
inductive It where
 | code (c:Code)
 | inBlock (id:Nat)
 | rounds (c:Code) (m:Nat)
 | ops (all:Array Oper) (rest:List Oper)
 | back (fn:Func) (cur:FuncId) (dst:Option Tmp) (all:Array Oper) (rest:List Oper)
 | again (lvl:Nat) (an:kx) (ws:List Nat) (s:S)
 | top (fn:Func)
 | beginR
 | dT (cur:FuncId) (dst:Option Tmp) (all:Array Oper) (rest:List Oper)
 | endl (fn:Func) (cur:FuncId) (ps:Array Tmp) (assign body:Code)
 | jump (j:LS)
structure kp where
 inl:FuncId→Bool
 anns:List kx
 eO:Nat
 rounds:Nat
mutual
def V.IP:V→V→Bool
 | .k (.int k i),.k (.int k' j)=>k == k' && i == j
 | .k (.bool i),.k (.bool j)=>i == j
 | .k (.string i),.k (.string j)=>decide (i=j)
 | .k (.slice none a b),.k (.slice none c d)=>a == c && b == d
 | .k (.pointer none),.k (.pointer none)=>true
 | .k (.tuple a),.k (.tuple b)=>a.isEmpty && b.isEmpty
 | .k .nilFunc,.k .nilFunc=>true
 | .k .nilIface,.k .nilIface=>true
 | .x i p,.x j q=>i == j && p == q
 | .p n o,.p m q=>n == m && o == q
 | .sl n o l c,.sl n' o' l' c'=>n == n' && o == o' && l == l' && c == c'
 | .a l,.a m=>s6 l m
 | .t l,.t m=>s6 l m
 | .f fn a b,.f fn' a' b'=>fn == fn' && s6 a a' && s6 b b'
 | .ep s i sz o,.ep s' i' sz' o'=>s.IP s' && i.IP i' && sz == sz' && o == o'
 | .ifc t v,.ifc t' v'=>t == t' && v.IP v'
 | .row n,.row m=>n == m
 | .cat l,.cat m=>s6 l m
 | .y n,.y m=>n == m
 | .mapV n,.mapV m=>n == m
 | .k (.map none),.k (.map none)=>true
 | .pt s i u sz,.pt s' i' u' sz'=>s.IP s' && i.IP i' && u == u' && sz == sz'
 | _,_=>false
def s6:List V→List V→Bool
 | [],[]=>true
 | a::l,b::m=>a.IP b && s6 l m
 | _,_=>false
end
mutual
theorem V.kI:∀ (a b:V),a.IP b=true→a=b:=by
 intro a b h
 unfold V.IP at h
 split at h<;>try simp only [Bool.and_eq_true,beq_iff_eq,decide_eq_true_eq,reduceCtorEq]at h
 case h_6 =>
  rename_i x y
  simp at h
  obtain⟨rfl,rfl⟩:=h
  rfl
 case h_12=>rw [lM _ _ h]
 case h_13=>rw [lM _ _ h]
 case h_14=>obtain⟨⟨rfl,h1⟩,h2⟩:=h;rw [lM _ _ h1,lM _ _ h2]
 case h_15=>obtain⟨⟨⟨h1,h2⟩,rfl⟩,rfl⟩:=h;rw [V.kI _ _ h1,V.kI _ _ h2]
 case h_16=>obtain⟨rfl,h1⟩:=h;rw [V.kI _ _ h1]
 case h_18=>rw [lM _ _ h]
 case h_22=>obtain⟨⟨⟨h1,h2⟩,rfl⟩,rfl⟩:=h;rw [V.kI _ _ h1,V.kI _ _ h2]
 all_goals first|rfl|(obtain⟨⟨⟨rfl,rfl⟩,rfl⟩,rfl⟩:=h;rfl)|(obtain⟨rfl,rfl⟩:=h;rfl)|(subst h;rfl)
theorem lM:∀ (l m:List V),s6 l m=true→l=m
 | [],[],_=>rfl
 | a::l,b::m,h=>by
  simp only [s6,Bool.and_eq_true]at h
  rw [V.kI a b h.1,lM l m h.2]
 | [],_::_,h=>by simp [s6]at h
 | _::_,[],h=>by simp [s6]at h
end
def gK(s:S)(d:Nat):Option V:=yf s.kn (s.fr[d]?).join
def wv(P:Program)(s:S):ResultVar→Option V
 | .tmp t=>gK s t
 | .cell p t=>match gK s p with
  | some (.p n o)=>match ((s.hp[n]?).join).bind jT,rowOf P t,aT P t with
   | some b,some true,some sz=>if o+sz≤b.c.length then some (.a ((b.c.drop o).take sz))else none
   | some b,some false,_=>b.c[o]?
   | _,_,_=>none
  | _=>none
def yH(P:Program)(s:S)(fn:Func):Option V:=match fn.results.toList.mapM (wv P s)with
 | some [v]=>some v
 | some vs=>some (.t vs)
 | none=>none
def bY(id:Nat):List It→Option (List It)
 | .inBlock id'::k=>if id=id' then some k else bY id k
 | .code _::k=>bY id k
 | .rounds _ _::k=>bY id k
 | .again _ _ _ _::k=>bY id k
 | _=>none
def fT:List It→Option (List It)
 | .code _::k=>fT k
 | .inBlock _::k=>fT k
 | .rounds _ _::k=>fT k
 | .again _ _ _ _::k=>fT k
 | .back f c d a r::k=>some (.back f c d a r::k)
 | .top f::k=>some (.top f::k)
 | .endl f c ps a b::k=>some (.endl f c ps a b::k)
 | _=>none
def written:Code→List Nat
 | .region _ ops _=>ops.toList.filterMap (·.dst)
 | .seq a b=>written a++written b
 | .cond _ a b=>written a++written b
 | .block _ c=>written c
 | .loop c=>written c
 | .scope c=>written c
 | .rangeFunc _ ps a b=>ps.toList++written a++written b
 | _=>[]
def gB:Code→Option Nat
 | .region id _ _=>some id
 | .seq a b=>(gB a).or (gB b)
 | .cond _ a b=>(gB a).or (gB b)
 | .block _ c=>gB c
 | .loop c=>gB c
 | .scope c=>gB c
 | _=>none
def Nj:Option V→Option V→Bool
 | none,_=>true
 | some v,some u=>v.IP u
 | some _,none=>false
def nj(skip:Nat→Bool):Nat→List (Option V)→List (Option V)→Bool
 | _,[],[]=>true
 | k,a::l,b::m=>(skip k || Nj a b) && nj skip (k+1) l m
 | _,_,_=>false
def Dx(skip:Nat→Nat→Bool)(n:Nat):Nat→List V→List V→Bool
 | _,[],[]=>true
 | k,a::l,b::m=>(skip n k || a.IP b) && Dx skip n (k+1) l m
 | _,_,_=>false
def jg(dead:List Nat)(skip:Nat→Nat→Bool):Nat→List (Option ak)→List (Option ak)→Bool
 | _,[],_=>true
 | n,none::l,_::m=>jg dead skip (n+1) l m
 | n,some b::l,some b'::m=>(dead.contains n || (b.t == b'.t && decide (b.k=b'.k) && Dx skip n 0 b.c b'.c)) && jg dead skip (n+1) l m
 | _,_,_=>false
def iz(_ _:Nat):Bool:=false
def nn:List (List (Option V))→List (List (Option V))→Bool
 | [],[]=>true
 | a::l,b::m=>nj (fun _=>false) 0 a b && nn l m
 | _,_=>false
def tQ(skip:Nat→Nat→Bool):Nat→List (List (Option V))→List (List (Option V))→Bool
 | _,[],[]=>true
 | k,a::l,b::m=>nj (skip k) 0 a b && tQ skip (k+1) l m
 | _,_,_=>false
def dg(s:S)(n:Nat):Bool:=match s.hp[n]?,s.ln[n]? with
 | some none,some none=>true
 | _,_=>false
def Oy(b:ak):Option ak:=match b.k with
 | .cells=>some b
 | .mp _ _=>some b
 | _=>none
def Pos.get(s:S):Pos→Option V
 | .s d=>gK s d
 | .c n k=>(((s.hp[n]?).join).bind Oy).bind fun b=>b.c[k]?
 | .f k d=>((s.stk[k]?).bind fun fr=>fr[d]?).join
 | .g _ _=>some (.k undef)
def Pos.put(s:S)(v:V):Pos→S
 | .s d=>{ s with fr:=s.fr.set d (some v) }
 | .c n k=>match ((s.hp[n]?).join).bind Oy with
  | some b=>{ s with hp:=s.hp.set n (some ⟨b.c.set k v,b.t,b.k⟩) }
  | none=>s
 | .f k d=>{ s with stk:=s.stk.mapIdx fun j fr=>if j=k then fr.set d (some v)else fr }
 | .g _ _=>s
def ga(s:S):HK→V→Option V
 | .one,v=>if v.one s.sh then some v else none
 | .ag n,.a cs=>if cs.length=n∧pN s.sh cs=true then some (.a cs)else none
 | .ext sz,.row m=>match (s.hp[m]?).join with
  | some b=>if b.k=.ext sz then some (.cat b.c)else none
  | none=>none
 | .row sz e,.row m=>match (s.hp[m]?).join with
  | some b=>if b.k=.row sz∧b.t=e then some (.cat b.c)else none
  | none=>none
 | .any,.x i p=>some (.x i p)
 | .any,.k v=>some (.k v)
 | .any,.a cs=>some (.a cs)
 | _,_=>none
def HK.sh:HK→Sh
 | .one=>.one
 | .ag n=>.ag n
 | _=>.any
def HK.Kv:HK→Bool
 | .row _ _=>true
 | _=>false
def HK.named:HK→Bool
 | .row _ _=>true
 | .ext _=>true
 | _=>false
def HK.v(m base j:Nat):HK→V
 | .one=>Sh.exp (m+j) .one []
 | .ag n=>Sh.exp (m+j) (.ag n) []
 | .any=>Sh.exp (m+j) .any []
 | _=>.row (base+j)
def HK.dS(m j:Nat):HK→Option ak
 | .ext sz=>some ⟨[.x (m+j) []],0,.ext sz⟩
 | .row sz e=>some ⟨[.x (m+j) []],e,.row sz⟩
 | _=>none
def nameOf:V→Option Nat
 | .row m=>some m
 | _=>none
def kx.on(an:kx)(s:S):Bool:=an.pos.all fun e=>match e.1 with
 | .c n k=>(Pos.get s (.c n k)).isSome
 | .f k d=>(Pos.get s (.f k d)).isSome
 | _=>true
def pX(an:kx)(s:S):Option (List V):=an.pos.mapM fun e=>(e.1.get s).bind (ga s e.2)
def dR(an:kx)(s:S)(j:Nat):Option Nat:=(an.pos[j]?).bind fun e=>if e.2.named then(e.1.get s).bind nameOf else none
def kA(an:kx)(j:Nat):Bool:=match an.pos[j]? with
 | some e=>e.2.Kv
 | none=>false
def fD(an:kx)(s:S):List Nat:=(List.range an.pos.length).filterMap fun j=>if kA an j then dR an s j else none
def po(an:kx)(p:Pos):Option Nat:=an.pos.findIdx? fun e=>decide (e.1=p)
def AK(an:kx)(m base:Nat)(p:Pos):Option V:=(po an p).bind fun j=>(an.pos[j]?).map fun e=>e.2.v m base j
def qa(an:kx)(ws:List Nat)(m base:Nat)(fr:List (Option V)):List (Option V) :=
 fr.mapIdx fun d v=>match AK an m base (.s d)with
  | some u=>some u
  | none=>if ws.contains d then none else v
def oz(an:kx)(m base:Nat)(dead:List Nat)(hp:List (Option ak)):List (Option ak) :=
 hp.mapIdx fun n b=>b.map fun b=>if dead.contains n then bH else⟨b.c.mapIdx fun k v=>match AK an m base (.c n k)with
  | some u=>u
  | none=>v,b.t,b.k⟩
def kx.Lz(an:kx):Bool:=an.pos.any fun e=>match e.1 with
 | .f _ _=>true
 | .g _ _=>true
 | _=>false
def kx.gone(an:kx)(k d:Nat):Bool:=an.pos.any fun e=>match e.1 with
 | .g k' ds=>k' == k && ds.contains d
 | _=>false
def r7(an:kx)(k d:Nat):Bool:=an.Lz && ((po an (.f k d)).isSome || an.gone k d)
def nw(an:kx)(m base:Nat)(l:List (List (Option V))):List (List (Option V)) :=
 if an.Lz then l.mapIdx fun k fr=>fr.mapIdx fun d v=>match AK an m base (.f k d)with
  | some u=>some u
  | none=>if an.gone k d then none else v
 else l
def nG(an:kx)(m:Nat):List (Option ak):=an.pos.mapIdx fun j e=>e.2.dS m j
def dV(an:kx)(ws:List Nat)(s:S):S :=
 { s with fr:=qa an ws s.sh.length s.hp.length s.fr,stk:=nw an s.sh.length s.hp.length s.stk,hp:=oz an s.sh.length s.hp.length (fD an s) s.hp++nG an s.sh.length,ln:=s.ln++nG an s.sh.length,sh:=s.sh++an.pos.map fun e=>e.2.sh }
def y9(an:kx)(ws:List Nat)(d:Nat):Bool:=(po an (.s d)).isSome || ws.contains d
def CA(an:kx)(n k:Nat):Bool:=(po an (.c n k)).isSome
def BX(an:kx)(l m:List (List (Option V))):Bool:=if an.Lz then tQ (r7 an) 0 l m else nn l m
def nF(an:kx)(s0 s:S):Bool:=decide (s0.hp.length=s0.ln.length) && (List.range an.pos.length).all fun i=>!kA an i || (match dR an s i with
 | some n=>(decide (s0.hp.length≤n) || (fD an s0).contains n) && (List.range an.pos.length).all fun j=>decide (i=j) || !kA an j || !(dR an s j == some n)
 | none=>false)
def settle(s:S):List (Pos×HK)→(S→Tree)→Tree
 | [],k=>k s
 | (p,.ext sz)::l,k=>match p.get s with
  | some (.x i q)=>if decide (0<sz) && decide (i<s.sh.length) && dg (s.room 1) s.hp.length then .df (.kext sz) [.x i q] .any (settle (p.put (((s.room 1).ext .any).make s.hp.length ⟨[.x s.sh.length []],0,.ext sz⟩) (.row s.hp.length)) l k)else .bad 51 []
  | some (.k (.slice none 0 c))=>if decide (0<sz) && dg (s.room 1) s.hp.length then settle (p.put ((s.room 1).make s.hp.length ⟨[],0,.ext sz⟩) (.row s.hp.length)) l k else .bad 52 []
  | _=>settle s l k
 | (p,.row sz e)::l,k=>match p.get s with
  | some (.k (.slice none 0 0))=>if decide (0<sz) && dg (s.room 1) s.hp.length then settle (p.put ((s.room 1).make s.hp.length ⟨[],e,.row sz⟩) (.row s.hp.length)) l k else .bad 53 []
  | _=>settle s l k
 | (_,_)::l,k=>settle s l k
def FD(an:kx)(ws:List Nat)(s0 s:S)(vals:List V):Nat :=
 if !nj (y9 an ws) 0 s0.fr s.fr then 601 else if !BX an s0.stk s.stk then 602 else if !jg (fD an s0) (CA an) 0 s0.hp s.hp then 603 else if !jg [] iz 0 s0.ln s.ln then 604 else if !dw s.ln s.sh.length vals then 605 else if !nF an s0 s then 606 else 607
mutual
def V.names:V→List Nat
 | .p n _=>[n]
 | .sl n _ _ _=>[n]
 | .row n=>[n]
 | .y n=>[n]
 | .mapV n=>[n]
 | .cat cs=>aM cs
 | .a cs=>aM cs
 | .t cs=>aM cs
 | .f _ a b=>aM a++aM b
 | .ep s i _ _=>s.names++i.names
 | .pt s i _ _=>s.names++i.names
 | .ifc _ v=>v.names
 | _=>[]
def aM:List V→List Nat
 | []=>[]
 | v::l=>v.names++aM l
end
mutual
def V.pT(r m:Nat):V→V
 | .p n o=>.p (if n=r then m else n) o
 | .sl n o l c=>.sl (if n=r then m else n) o l c
 | .a cs=>.a (AW r m cs)
 | .t cs=>.t (AW r m cs)
 | .f fn a b=>.f fn (AW r m a) (AW r m b)
 | v=>v
def AW(r m:Nat):List V→List V
 | []=>[]
 | v::l=>v.pT r m::AW r m l
end
mutual
def V.iD(b5:List Nat)(r:Nat):V→Bool
 | .k _=>true
 | .x _ _=>true
 | .p n _=>n == r || b5.contains n
 | .sl n _ _ _=>n == r || b5.contains n
 | .a cs=>mQ b5 r cs
 | .t cs=>mQ b5 r cs
 | .f _ a b=>mQ b5 r a && mQ b5 r b
 | _=>false
def mQ(b5:List Nat)(r:Nat):List V→Bool
 | []=>true
 | v::l=>v.iD b5 r && mQ b5 r l
end
mutual
theorem Ct{ρ:List Value}{α α2:Nat→AV}{b5:List Nat}{r m:Nat}(h1:(α2 m).b=(α r).b)(h2:∀ n∈b5,(α2 n).b=(α n).b):∀ (v:V),v.iD b5 r=true→(v.pT r m).den ρ α2=v.den ρ α
 | .k v,_=>rfl
 | .x i p,_=>rfl
 | .p n o,h=>by
  simp only [V.iD,Bool.or_eq_true,beq_iff_eq,List.contains_iff_mem]at h
  simp only [V.pT,V.den]
  split
  ·rename_i e;subst e;rw [h1]
  rename_i e;rw [h2 n (h.resolve_left e)]
 | .sl n o l c,h=>by
  simp only [V.iD,Bool.or_eq_true,beq_iff_eq,List.contains_iff_mem]at h
  simp only [V.pT,V.den]
  split
  ·rename_i e;subst e;rw [h1]
  rename_i e;rw [h2 n (h.resolve_left e)]
 | .a cs,h=>by simp only [V.pT,V.den,kY h1 h2 cs h]
 | .t cs,h=>by simp only [V.pT,V.den,kY h1 h2 cs h]
 | .f fn a b,h=>by
  simp only [V.iD,Bool.and_eq_true]at h
  simp only [V.pT,V.den,kY h1 h2 a h.1,kY h1 h2 b h.2]
 | .ep _ _ _ _,h=>by simp [V.iD]at h
 | .pt _ _ _ _,h=>by simp [V.iD]at h
 | .ifc _ _,h=>by simp [V.iD]at h
 | .row _,h=>by simp [V.iD]at h
 | .cat _,h=>by simp [V.iD]at h
 | .y _,h=>by simp [V.iD]at h
 | .mapV _,h=>by simp [V.iD]at h
theorem kY{ρ:List Value}{α α2:Nat→AV}{b5:List Nat}{r m:Nat}(h1:(α2 m).b=(α r).b)(h2:∀ n∈b5,(α2 n).b=(α n).b):∀ (l:List V),mQ b5 r l=true→ah ρ α2 (AW r m l)=ah ρ α l
 | [],_=>rfl
 | v::l,h=>by
  simp only [mQ,Bool.and_eq_true]at h
  simp only [AW,ah,Ct h1 h2 v h.1,kY h1 h2 l h.2]
end
structure cn where
 v:V
 new:Option ak
 wr:Option (Nat×ak)
 slots:List Nat
 names:List Nat
 snames:List Nat
def tmpsOf:List Operand→List Nat
 | []=>[]
 | .tmp t::l=>t::tmpsOf l
 | _::l=>tmpsOf l
def slotsOf(all:Array Oper)(o:Oper):List Nat:=tmpsOf o.op.operands.toList++(match o.guard with
 | some (g,_)=>(((all[g]?).bind (·.dst))).toList
 | none=>[])
def cF(nm:Nat)(v:V)(new:Option ak)(wr:Option (Nat×ak)):List Nat :=
 (v.names++(match new with|some b=>aM b.c|none=>[])++(match wr with|some (n,b)=>n::aM b.c|none=>[])).filter (· != nm)
def gM(nm:Nat)(d:cn):List Nat:=(match d.new with|some _=>[nm]|none=>[])++(match d.wr with|some (n,_)=>[n]|none=>[])
def gi(nm:Nat)(d:cn):List Nat:=match d.new with|some _=>[nm]|none=>[]
def meets(l m:List Nat):Bool:=l.any fun x=>m.contains x
def conflict(base:Nat)(i j:Nat)(o:Oper)(d:cn)(o':Oper)(d':cn):Bool :=
 meets o.dst.toList (d'.slots++o'.dst.toList) || meets o'.dst.toList d.slots || meets (gM (base+i) d) (d'.names++gM (base+j) d'++[base+j]) || meets (gM (base+j) d') (d.names++[base+i]) || meets (gi (base+i) d) (d'.snames++[base+j]) || meets (gi (base+j) d') (d.snames++[base+i])
def fv(o:Oper):List Nat:=(o.after.toList.filter fun e=>Region.binds .any e).map (·.on)
def once:List Nat→List Nat
 | []=>[]
 | a::l=>if l.contains a then once l else a::once l
theorem rb{x:Nat}:∀ {l:List Nat},x∈once l→x∈l
 | [],h=>h
 | a::l,h=>by
  unfold once at h
  split at h
  ·exact List.mem_cons_of_mem _ (rb h)
  rcases List.mem_cons.1 h with rfl|h
  ·exact List.mem_cons_self ..
  exact List.mem_cons_of_mem _ (rb h)
def mz:List Oper→List (List Nat)→List (List Nat)
 | [],acc=>acc
 | o::l,acc=>mz l (acc++[once (fv o++(fv o).flatMap fun p=>acc.getD p [])])
def ru(base:Nat)(tu:List (List Nat))(j:Nat)(o':Oper)(d':cn):Nat→List (Oper×cn)→Bool
 | _,[]=>true
 | i,(o,d)::l=>(!conflict base i j o d o' d' || (tu.getD j []).contains i) && ru base tu j o' d' (i+1) l
def lU(base:Nat)(tu:List (List Nat))(pre:List (Oper×cn)):List (Oper×cn)→Bool
 | []=>true
 | (o,d)::l=>ru base tu pre.length o d 0 pre && lU base tu (pre++[(o,d)]) l
def ol:Nat→List Oper→Bool
 | _,[]=>true
 | i,o::l=>(fv o).all (fun p=>decide (p<i)) && ol (i+1) l
def vV(base:Nat)(all:List Oper)(ds:List cn):Bool:=ol 0 all && decide (all.length=ds.length) && lU base (mz all []) [] (all.zip ds)
def j6(o:Oper):Option (Nat×Nat):=match o.guard,o.op,o.dst with
 | none,.move (.tmp x),some y=>some (x,y)
 | _,_,_=>none
def vX:Op→Bool
 | .select _ _=>false
 | .defer _=>false
 | _=>true
def AA(all:List Oper)(i k:Nat):Bool:=match all[i]?,all[k]? with
 | some o,some o'=>match j6 o with
  | some (x,y)=>!(o'.looksAt all.toArray).contains y && !o'.dst.toList.contains y && !o'.dst.toList.contains x && vX o'.op
  | none=>false
 | _,_=>false
def wL(base:Nat)(all:List Oper)(ds:List cn):Bool:=ol 0 all && decide (ds.length<all.length) && lU base (mz all []) [] (all.zip ds) && (List.range (all.length-ds.length)).all fun r=>(List.range (ds.length+r)).all fun i=>((mz all []).getD (ds.length+r) []).contains i || (((List.range ds.length).find? fun i=>!((mz all []).getD ds.length []).contains i) == some i && AA all i (ds.length+r))
def jh(o:Oper):Option (Nat×Nat):=match o.guard,o.op,o.dst with
 | none,.assign (.tmp x),some y=>some (x,y)
 | none,.extract (.tmp x) _,some y=>some (x,y)
 | _,_,_=>none
def Cr(o:Oper)(v:Value):Option Value:=match o.op with
 | .extract _ j=>(match v with
  | .tuple vs=>vs[j]?
  | _=>none)
 | _=>some v
def apart(o o':Oper):Bool:=match jh o,jh o' with
 | some (x,y),some (x',y')=>x' != y && x != y' && y != y'
 | _,_=>false
def qo(base:Nat)(all:List Oper)(ds:List cn):Bool:=ol 0 all && decide (ds.length<all.length) && lU base (mz all []) [] (all.zip ds) && (List.range ds.length).all (fun i=>((mz all []).getD ds.length []).contains i) && (List.range all.length).all fun k=>decide (k≤ds.length) || ((List.range (ds.length+1)).all (fun i=>((mz all []).getD k []).contains i) && (all[k]?.bind jh).isSome && (List.range k).all fun j=>decide (j≤ds.length) || ((mz all []).getD k []).contains j || (match all[j]?,all[k]? with|some o,some o'=>apart o o'|_,_=>false))
def Is(l:List FuncId):List V→Bool
 | .f (.func g) [] _::_=>l.contains g
 | .y _::_=>true
 | _=>false
def Rw.wf(hp:List (Option ak))(m:Nat):Rw→Bool
 | .own _ cs=>dw hp m cs
 | .row _ cs=>dw hp m cs
 | _=>true
def cZ.wf(hp:List (Option ak))(m:Nat):cZ→Bool
 | .call _ rw=>rw.all (Rw.wf hp m)
 | .callq _ _=>false
 | .lastq _=>false
 | .callg _ rw grw=>rw.all (Rw.wf hp m) && grw.all (Rw.wf hp m)
 | .callw _ rw caps=>rw.all (Rw.wf hp m) && caps.all (dw hp m)
 | .callp _ rw _=>rw.all (Rw.wf hp m)
 | .callr _ rw _ _=>rw.all (Rw.wf hp m)
 | .calln _ rw _ _=>rw.all (Rw.wf hp m)
 | .dN _ _ src=>src.wf hp m
 | .appx _ _ _ src=>src.wf hp m
 | .apo _ _ src=>src.wf hp m
 | _=>true
def gH(hp:List (Option ak))(op:Op)(vs:List V):List Nat:=if ey op vs then []else eu (fS hp op vs)
def fg(op:Op)(vs:List V):List Nat:=if ey op vs then eu vs else []
def x8(nms:List Nat)(hp:List (Option ak)):List (Option ak):=hp.mapIdx fun n b=>if nms.contains n then b else none
def Gu(k:Nat)(v:V)(hp:List (Option ak)):List (Option ak):=match k with
 | 0=>[]
 | 1=>hp
 | _=>x8 v.names hp
def cd(s:S)(g:FuncId)(fn:Func)(args:List V):S :=
 { fr:=args.map some++List.replicate (fn.ntmps-args.length) (some (.k undef)),stk:=[(aM args).map (fun n=>some (.p n 0))++(aM args).map (fun n=>some (.row n))],hp:=x8 (aM args) s.hp,ln:=x8 (aM args) s.ln,sh:=s.sh,kn:=s.kn,lps:=[],cur:=g }
def P2(hp:List (Option ak))(m:Nat):Option V→Bool
 | none=>true
 | some v=>v.wf hp m
def Fs(s:S):Bool:=s.fr.all (P2 s.ln s.sh.length) && s.stk.all (fun f=>f.all (P2 s.ln s.sh.length)) && (s.ln.all fun b=>match b with|none=>true|some b=>dw s.ln s.sh.length b.c) && ((List.range s.hp.length).all fun n=>match s.hp[n]? with|some (some _)=>lv s.ln n|_=>true) && s.hp.all fun b=>match b with|none=>true|some b=>dw s.ln s.sh.length b.c && decide (b.k=.cells)
def vd(s:S)(v:V)(hp:List (Option ak)):Option (Nat×ak):=(v.names.find? fun n=>decide (s.hp.length≤n)).bind fun r=>(((hp[r]?).join).bind jT).map fun b=>(r,b)
def Gv(kn:List (Nat×List Nat×Value)):Nat:=kn.foldr (fun e a=>a*64+(match e.2.2 with
 | .bool true=>1
 | .bool false=>2
 | .int _ j=>j.toNat+3
 | _=>63)) 0
def s5(C:Cx)(s:S)(i:Nat)(b:Bool)(t:Tree):Tree:=match C.cut.any fun e=>e.1 == i && e.2.1 == 1000000+Gv s.kn && e.2.2 == b with
 | true=>.bad 70 []
 | false=>t
def bG(C:Cx)(inl:FuncId→Bool)(sub:S→List It→Tree)(all:Array Oper)(base:Nat)(cont:S→Tree)(tail:S→List Oper→Tree):Nat→S→List cn→List Oper→Tree
 | 0,_,_,_=>.bad 30 []
 | n+1,s,ds,ops=>match ops with
  | []=>if vV base all.toList ds then cont s else .bad 31 []
  | o::rest =>
   let nm:=base+ds.length
   let go:Tree:=match o.op.operands.toList.mapM s.ev with
    | none=>.bad 32 [o.op]
    | some vs=>match dQ C s.sh nm o.op vs (s.ja o.op vs)with
     | .ef v new wr=>if aW s nm v new wr && dg s nm then bG C inl sub all base cont tail n (s.dl nm o.dst v new wr) (ds++[⟨v,new,wr,slotsOf all o,gH s.hp o.op vs,fg o.op vs++cF nm v new wr⟩]) rest else .bad 33 [o.op]
     | .df q args sh mk new wr=>if dw s.ln s.sh.length args && q.wf s.ln s.sh.length && aW (s.ext sh) nm (bx s.sh.length sh mk) new wr && dg s nm then .df q args sh (bG C inl sub all base cont tail n ((s.ext sh).dl nm o.dst (bx s.sh.length sh mk) new wr) (ds++[⟨bx s.sh.length sh mk,new,wr,slotsOf all o,gH s.hp o.op vs,fg o.op vs++cF nm (bx s.sh.length sh mk) new wr⟩]) rest)else .bad 34 [o.op]
     | .br i p=>if i<s.sh.length then .br i p (s5 C s i true (bG C inl sub all base cont tail n (s.dec i p (.bool true)) ds ops)) (s5 C s i false (bG C inl sub all base cont tail n (s.dec i p (.bool false)) ds ops))else .bad 35 [o.op]
     | .sp i p m=>if i<s.sh.length then .sp i p ((List.range m).map fun(j:Nat)=>bG C inl sub all base cont tail n (s.dec i p (.int .i64 (j:Int))) ds ops)else .bad 36 [o.op]
     | .no=>if Is C.tl vs && (wL base all.toList ds || qo base all.toList ds)then tail s (o::rest)else match o.op,vs with
      | .call c,.f (.func g) [] cap::args=>match c.callee,C.P.funcs[g]?,enters C.P g && inl g with
       | .value _,some fn,true=>match fn.body with
        | some body=>if(args++cap).length≤fn.ntmps && Fs (cd s g fn (args++cap))then
         match sub (cd s g fn (args++cap)) [.code body,.top fn]with
         | .ret v hp' stk'=>if jg [] iz 0 (cd s g fn (args++cap)).hp hp' && nn (cd s g fn (args++cap)).stk stk' && v.wf (cd s g fn (args++cap)).ln s.sh.length then bG C inl sub all base cont tail n (s.put o.dst v) (ds++[⟨v,none,none,slotsOf all o,aM (args++cap),aM (args++cap)⟩]) rest else match vd (cd s g fn (args++cap)) v hp' with
          | some (r,b)=>if jg [] iz 0 (cd s g fn (args++cap)).hp hp' && nn (cd s g fn (args++cap)).stk stk' && v.iD (aM (args++cap)) r && dw (cd s g fn (args++cap)).ln s.sh.length b.c && aW s nm (v.pT r nm) (some b) none && dg s nm then bG C inl sub all base cont tail n (s.dl nm o.dst (v.pT r nm) (some b) none) (ds++[⟨v.pT r nm,some b,none,slotsOf all o,aM (args++cap),aM (args++cap)++cF nm (v.pT r nm) (some b) none⟩]) rest else .bad 47 [o.op]
          | none=>.bad 42 [o.op]
         | t=>match t with
          | .bad n l=>.bad (n+100) l
          | _=>.bad 43 [o.op]
         else .bad 44 [o.op]
        | none=>.bad 45 [o.op]
       | _,_,_=>.bad 37 [o.op]
      | _,_=>.bad 46 [o.op]
   match o.guard with
   | none=>go
   | some (g,want)=>match (all[g]?).bind (·.dst)with
    | none=>.bad 38 [o.op]
    | some d=>match gK s d with
     | some (.k (.tuple _))=>bG C inl sub all base cont tail n (s.put o.dst (.k undef)) (ds++[⟨.k undef,none,none,slotsOf all o,[],[]⟩]) rest
     | some (.k (.bool b))=>if b == want then go else bG C inl sub all base cont tail n (s.put o.dst (.k undef)) (ds++[⟨.k undef,none,none,slotsOf all o,[],[]⟩]) rest
     | some (.x i p)=>if i<s.sh.length then .br i p (s5 C s i true (bG C inl sub all base cont tail n (s.dec i p (.bool true)) ds ops)) (s5 C s i false (bG C inl sub all base cont tail n (s.dec i p (.bool false)) ds ops))else .bad 39 [o.op]
     | _=>.bad 40 [o.op]
def MM(P:Program)(G:Nat)(s:S)(op:Op)(vs:List V):Option (Nat×ak×Nat):=match op,vs with
 | .convert t t' _,[.sl n 0 len cap]=>match eh P t,(s.hp[n]?).join with
  | some e,some b=>match P.underlying e with
   | some (.int .u8)=>if G=12∧t=t'∧b.k=.cells∧b.t=e∧b.c.length=len∧cap=len∧0<len then some (n,b,len)else none
   | _=>none
  | _,_=>none
 | _,_=>none
def rk:List It→Bool
 | .code _::k=>rk k
 | .inBlock _::k=>rk k
 | .rounds _ _::k=>rk k
 | .again _ _ _ _::k=>rk k
 | .ops _ _::k=>rk k
 | .jump _::_=>false
 | _=>true
def cj:List It→Option (List It)
 | .code _::k=>cj k
 | .inBlock _::k=>cj k
 | .rounds _ _::k=>cj k
 | .again _ _ _ _::k=>cj k
 | .dT a b c d::k=>some (.dT a b c d::k)
 | _=>none
def fM:List It→Bool
 | .code _::k=>fM k
 | .inBlock _::k=>fM k
 | .rounds _ _::k=>fM k
 | .again _ _ _ _::k=>fM k
 | .back _ _ _ _ _::_=>true
 | .top _::_=>true
 | .endl _ _ _ _ _::_=>true
 | _=>false
def dU:List It→Option (FuncId×Array Tmp×Code×Code)
 | .code _::k=>dU k
 | .inBlock _::k=>dU k
 | .rounds _ _::k=>dU k
 | .again _ _ _ _::k=>dU k
 | .endl _ cur ps a b::_=>some (cur,ps,a,b)
 | _=>none
def DD(C:Cx)(s:S)(eO:Nat)(op:Op)(vs:List V):Option Nat:=if eO=12 then(match op,vs with
 | .call c,.f (.func g) [] _::args=>match c.callee with
  | .value _=>((C.ali g).filterMap fun(j:Nat)=>match args[j]? with
   | some (V.sl n _ _ _)=>match (s.hp[n]?).join with
    | some b=>if b.k=.cells then some n else none
    | none=>none
   | _=>none)[0]?
  | _=>none
 | _,_=>none)else none
def JA(la:Bool)(s:S)(n:Nat):Option (Nat×Nat×List V):=match (s.hp[n]?).join with
 | some b=>match b.k with
  | .row sz=>some (n,sz,b.c)
  | .ext sz=>if la then some (n,sz,b.c)else none
  | _=>none
 | none=>none
def JB(la:Bool)(s:S)(eO:Nat)(op:Op)(vs:List V):Option (Nat×Nat×List V):=if eO=12 then(match op,vs with
 | .store _ _ _,[_,.row n]=>JA la s n
 | .buildSlice _ _ _,[.row n]=>if la then JA la s n else none
 | _,_=>none)else none
def LC(s:S)(an:kx)(eO:Nat):Option (Nat×Nat×List V):=if eO=12 then(an.pos.filterMap fun e=>match e.2 with
 | .one=>match e.1.get s with
  | some (.row n)=>match (s.hp[n]?).join with
   | some b=>match b.k with
    | .row sz=>some (n,sz,b.c)
    | _=>none
   | none=>none
  | _=>none
 | _=>none)[0]? else none
def Ly(eO:Nat)(s:S)(ops:Array Oper):Option Nat:=if eO=12 then(if ops.toList.any (fun o=>match o.op with
 | .slice _ _ none (some _) none=>true
 | _=>false)then(ops.toList.filterMap fun o=>match o.op with
  | .move x=>match s.ev x with
   | some (.row n)=>match (s.hp[n]?).join with
    | some b=>match b.k with
     | .row _=>some n
     | _=>none
    | none=>none
   | _=>none
  | _=>none)[0]? else none)else none
def A7(fr:List (Option V))(ps:Array Tmp)(args:List V):List (Option V):=(ps.toList.zip args).foldl (fun f e=>f.set e.1 (some e.2)) fr
def jz:Nat→Nat→List (Option ak)→Nat
 | _,r,[]=>r
 | i,r,none::l=>jz (i+1) r l
 | i,_,some _::l=>jz (i+1) (i+1) l
def S.trim(s:S)(b:Bool)(base:Nat):S:=match b with
 | false=>s
 | true=>match max base (max (jz 0 0 s.hp) (jz 0 0 s.ln))with
  | k=>if(s.hp.drop k).all Option.isNone && (s.ln.drop k).all Option.isNone then { s with hp:=s.hp.take k,ln:=s.ln.take k }else s
def xK(C:Cx)(s:S)(i:Nat)(b:Bool)(t:Tree):Tree:=match C.cut.any fun e=>e.1 == i && (e.2.1 == s.kn.length || e.2.1 == 1000000+Gv s.kn) && e.2.2 == b with
 | true=>.bad 70 []
 | false=>t
def run(C:Cx)(G:kp):Nat→Nat→S→List It→Tree
 | 0,_,_,_=>.bad 0 []
 | n+1,lv,s,items=>match items with
  | []=>.bad 1 []
  | .top fn::_=>match yH C.P s fn with
   | some v=>if v.wf s.ln s.sh.length then .ret v (Gu G.eO v s.hp) s.stk else .bad 2 []
   | none=>.bad 3 []
  | .back fn cur dst all rest::k=>match yH C.P s fn,s.stk with
   | some v,fr::stk=>if v.wf s.ln s.sh.length then run C G n lv (({ s with fr:=fr,stk:=stk,cur:=cur }:S).put dst v) (.ops all rest::k)else .bad 4 []
   | _,_=>.bad 5 []
  | .again l an ws s0::_=>match LC s an G.eO with
   | some (n0,sz,c)=>.df (.lastq sz) [.cat c] .one (run C G n lv (s.last n0) items)
   | none=>settle s an.pos fun s=>match pX an s with
   | some vals=>if nj (y9 an ws) 0 s0.fr s.fr && BX an s0.stk s.stk && jg (fD an s0) (CA an) 0 s0.hp s.hp && jg [] iz 0 s0.ln s.ln && dw s.ln s.sh.length vals && nF an s0 s && s0.cur == s.cur && decide (s0.lps=s.lps)then .again l vals else .bad (FD an ws s0 s vals) []
   | none=>.bad 7 []
  | .beginR::k=>match s.lps with
   | (m,.ready)::r=>run C G n lv { s with lps:=(m,.busy)::r } k
   | _=>.bad 54 []
  | .dT cur dst all rest::k=>match s.lps,s.stk with
   | (m,.busy)::r,fr::stk=>run C G n lv (({ s with fr:=fr,stk:=stk,lps:=(m,.ready)::r,cur:=cur }:S).put dst (.k (.bool true))) (.ops all rest::k)
   | _,_=>.bad 55 []
  | .jump j::.dT cur dst all rest::k=>match s.lps,s.stk with
   | (m,.busy)::r,fr::stk=>if j.pe.isSome then run C G n lv (({ s with fr:=fr,stk:=stk,lps:=(m,j)::r,cur:=cur }:S).put dst (.k (.bool false))) (.ops all rest::k)else .bad 56 []
   | _,_=>.bad 57 []
  | .jump _::_=>.bad 58 []
  | .endl fn cur _ _ _::k=>match yH C.P s fn,s.lps,s.stk with
   | some v,(_,q)::r,fr::stk=>if q=.busy then .bad 59 []else match q.pe with
    | none=>run C G n lv { s with fr:=fr,stk:=stk,lps:=r,cur:=cur } k
    | some c=>run C G n lv { s with fr:=fr,stk:=stk,lps:=r,cur:=cur } (.code c::k)
   | _,_,_=>.bad 60 []
  | .inBlock _::k=>run C G n lv s k
  | .rounds c m::k=>match m with
   | 0=>.bad 8 []
   | m+1=>run C G n lv s (.code c::.rounds c m::k)
  | .code c::k=>match c with
   | .skip=>run C G n lv s k
   | .label _=>run C G n lv s k
   | .seq a b=>run C G n lv s (.code a::.code b::k)
   | .block id c=>run C G n lv s (.code c::.inBlock id::k)
   | .cond x a b=>match s.ev x with
    | some (.k (.bool true))=>run C G n lv s (.code a::k)
    | some (.k (.bool false))=>run C G n lv s (.code b::k)
    | some (.x i p)=>if i<s.sh.length then .br i p (xK C s i true (run C G n lv (s.dec i p (.bool true)) (.code a::k))) (xK C s i false (run C G n lv (s.dec i p (.bool false)) (.code b::k)))else .bad 9 []
    | _=>.bad 10 []
   | .exit id=>match bY id k with
    | some k'=>run C G n lv s k'
    | none=>match cj k with
     | some k'=>run C G n lv s (.jump (.exit id)::k')
     | none=>.bad 11 []
   | .ret=>match fT k with
    | some k'=>run C G n lv s k'
    | none=>match cj k with
     | some k'=>run C G n lv s (.jump .ret::k')
     | none=>.bad 12 []
   | .rangeFunc g ps assign body=>match s.ev g,fM k with
    | some (.f (.func gf) [] cap),true=>match C.P.funcs[gf]?,enters C.P gf && G.inl gf with
     | some fn,true=>match fn.body with
      | some c=>if 1+cap.length≤fn.ntmps && dw s.ln s.sh.length cap && dg (s.room 1) s.hp.length then
       run C G n lv { (s.room 1).make s.hp.length bH with fr:=(.y s.hp.length::cap).map some++List.replicate (fn.ntmps-(.y s.hp.length::cap:List V).length) (some (.k undef)),stk:=s.fr::s.stk,lps:=(s.hp.length,.ready)::s.lps,cur:=gf } (.code c::.endl fn s.cur ps assign body::k)else .bad 50 []
      | none=>.bad 51 []
     | _,_=>.bad 52 []
    | _,_=>.bad 53 []
   | .loop c=>match G.anns.find? (fun an=>an.fn == s.cur && some an.reg == gB c && an.on s)with
    | none=>run C G n lv s (.rounds c G.rounds::k)
    | some an=>settle s an.pos fun s=>match pX an s with
     | some vals=>if dw s.ln s.sh.length vals && nF an s s then .loop vals (an.pos.map fun e=>e.2.sh) (run C G n (lv+1) (dV an (written c) s) (.code c::.again lv an (written c) s::k))else .bad 13 []
     | none=>.bad 14 []
   | .region _ ops false=>run C G n lv s (.ops ops ops.toList::k)
   | .region id ops true=>match Ly G.eO s ops with
    | some n0=>run C G n lv (s.cE n0) (.code (.region id ops true)::k)
    | none=>if C.P.follows .mixedOrders then bG C G.inl (fun s' it=>run C { G with eO:=1 } n 0 s' it) ops s.hp.length (fun s'=>run C G n lv (s'.trim C.trm s.hp.length) k) (fun s' l=>if rk k then run C G n lv (s'.trim C.trm s.hp.length) (.ops ops l::k)else .bad 71 []) (4*ops.size+20) (s.room ops.size) [] ops.toList else .bad 41 []
   | _=>.bad 15 []
  | .ops _ []::k=>run C G n lv s k
  | .ops all (o::rest)::k =>
   let go:Tree:=match o.op.operands.toList.mapM s.ev with
    | none=>.bad 16 [o.op]
    | some vs=>match MM C.P G.eO s o.op vs with
     | some (n0,b,_)=>if aW ((s.lay n0 bH).room 1) s.hp.length (.row s.hp.length) (some ⟨[.a b.c],0,.ext 1⟩) none && dg ((s.lay n0 bH).room 1) s.hp.length then run C G n lv (((s.lay n0 bH).room 1).dl s.hp.length o.dst (.row s.hp.length) (some ⟨[.a b.c],0,.ext 1⟩) none) (.ops all rest::k)else .bad 82 [o.op]
     | none=>match ri C (s.ja o.op vs) o.op vs with
     | some (g,rw,as',sh)=>if aW (s.ext sh) s.hp.length (bx s.sh.length sh none) none none then .df (.callq g rw) as' sh (run C G n lv ((s.ext sh).dl s.hp.length o.dst (bx s.sh.length sh none) none none) (.ops all rest::k))else .bad 80 [o.op]
     | none=>match dQ C s.sh s.hp.length o.op vs (s.ja o.op vs)with
     | .ef v none wr=>if aW s s.hp.length v none wr then run C G n lv (s.dl s.hp.length o.dst v none wr) (.ops all rest::k)else .bad 17 [o.op]
     | .ef v (some b) wr=>if aW (s.room 1) s.hp.length v (some b) wr && dg (s.room 1) s.hp.length then run C G n lv ((s.room 1).dl s.hp.length o.dst v (some b) wr) (.ops all rest::k)else .bad 18 [o.op]
     | .df q args sh mk none wr=>if dw s.ln s.sh.length args && q.wf s.ln s.sh.length && aW (s.ext sh) s.hp.length (bx s.sh.length sh mk) none wr then .df q args sh (run C G n lv ((s.ext sh).dl s.hp.length o.dst (bx s.sh.length sh mk) none wr) (.ops all rest::k))else .bad 20 [o.op]
     | .df q args sh mk (some b) wr=>if dw s.ln s.sh.length args && q.wf s.ln s.sh.length && aW ((s.room 1).ext sh) s.hp.length (bx s.sh.length sh mk) (some b) wr && dg (s.room 1) s.hp.length then .df q args sh (run C G n lv (((s.room 1).ext sh).dl s.hp.length o.dst (bx s.sh.length sh mk) (some b) wr) (.ops all rest::k))else .bad 19 [o.op]
     | .br i p=>if i<s.sh.length then .br i p (run C G n lv (s.dec i p (.bool true)) items) (run C G n lv (s.dec i p (.bool false)) items)else .bad 21 [o.op]
     | .sp i p m=>if i<s.sh.length then .sp i p ((List.range m).map fun(j:Nat)=>run C G n lv (s.dec i p (.int .i64 (j:Int))) items)else .bad 22 [o.op]
     | .no=>match DD C s G.eO o.op vs with
      | some n0=>run C G n lv (s.freeze n0) items
      | none=>match JB C.la s G.eO o.op vs with
      | some (n0,sz,c)=>.df (.lastq sz) [.cat c] .one (run C G n lv (s.last n0) items)
      | none=>match o.op,vs with
      | .call c,.f (.func g) fs cap::args=>match c.callee,C.P.funcs[g]?,enters C.P g && G.inl g with
       | .value _,some fn,true=>match fn.body with
        | some body=>if(fs++(args++cap)).length≤fn.ntmps && dw s.ln s.sh.length (fs++(args++cap))then
         run C G n lv { s with fr:=(fs++(args++cap)).map some++List.replicate (fn.ntmps-(fs++(args++cap)).length) (some (.k undef)),stk:=s.fr::s.stk,cur:=g } (.code body::.back fn s.cur o.dst all rest::k)else .bad 23 [o.op]
        | none=>.bad 24 [o.op]
       | _,_,_=>.bad 25 [o.op]
      | .call c,.y m::args=>match c.callee,s.lps,s.stk,dU k with
       | .value _,(m',.ready)::_,fr::_,some (cur,ps,assign,body)=>if m=m'∧args.length=ps.size∧dw s.ln s.sh.length args=true then
        run C G n lv { s with fr:=A7 fr ps args,stk:=s.fr::s.stk,cur:=cur } (.code assign::.beginR::.code body::.dT s.cur o.dst all rest::k)else .bad 61 [o.op]
       | _,_,_,_=>.bad 62 [o.op]
      | _,_=>.bad 26 [o.op]
   match o.guard with
   | none=>go
   | some (g,want)=>match (all[g]?).bind (·.dst)with
    | none=>.bad 27 [o.op]
    | some d=>match gK s d with
     | some (.k (.tuple _))=>run C G n lv (s.put o.dst (.k undef)) (.ops all rest::k)
     | some (.k (.bool b))=>if b == want then go else run C G n lv (s.put o.dst (.k undef)) (.ops all rest::k)
     | some (.x i p)=>if i<s.sh.length then .br i p (xK C s i true (run C G n lv (s.dec i p (.bool true)) items)) (xK C s i false (run C G n lv (s.dec i p (.bool false)) items))else .bad 28 [o.op]
     | _=>.bad 29 [o.op]
def door(f:FuncId)(fn:Func)(args:List V)(sh:List Sh):S :=
 { fr:=args.map some++List.replicate (fn.ntmps-args.length) (some (.k undef)),stk:=[],hp:=[],ln:=[],sh:=sh,kn:=[],lps:=[],cur:=f }
def qI(fn:Func)(args:List V)(sh:List Sh):Bool:=decide (args.length≤fn.ntmps) && dw [] sh.length args
end SX
end Go.Proofs.YtidekfgkpindbaaGreatDoor
