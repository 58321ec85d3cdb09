/-
  Texts behind the statement, part 4.
-/
import Derived.Test.YtidekfgkpindbaaGreatDoorQC3
import Derived.Test.YtidekfgkpindbaaGreatDoorQC1
set_option linter.unusedSimpArgs false
set_option linter.unusedVariables false
namespace Go.Proofs.YtidekfgkpindbaaGreatDoor
open Go Go.RowKit
namespace SX
def cZ.L0(C:Cx)(ρ:List Value)(α:Nat→AV)(q:cZ)(args:List V)(Q:Value→List Arg→Prop):Prop:=match q with
 | .callq g rw=>∃ as',bT C ρ α rw args as'∧C.Rn C.K g as' Q
 | .lastq sz=>∀ A n c,((ah ρ α args).flatMap ae).length=n*sz→n≤c→(0<n→A.isSome=true)→Q (.slice A n c) [⟨.slice A n c,sz,(ah ρ α args).flatMap ae⟩]
 | _=>False
theorem nL{C:Cx}{ρ:List Value}{α:Nat→AV}{q:cZ}{args:List V}{Q:Value→List Arg→Prop}{hp:List (Option ak)}{m:Nat}(hq:q.wf hp m=true)(h:q.L0 C ρ α args Q):False:=by
 cases q<;>first|exact h|cases hq
theorem NM{C:Cx}{ρ:List Value}{α:Nat→AV}{g:FuncId}{rw:List Rw}{args:List V}{v:Value}(h:(cZ.callq g rw).rel C ρ α args v):False:=by
 unfold cZ.rel at h
 split at h<;>first|exact h|(rename_i hq;cases hq)|skip
mutual
def VC:Cx→fB→List (World→Prop)→List TF→(Ending→World→Prop)→List (Cx→List Value→Prop)→List Value→Tree→Prop
 | C,w0,ps,T0,R,L,ρ,.df q args sh t=>(∃ v,(∀ α,q.rel C ρ α args v)∧sh.fit v=true∧VC C w0 ps T0 R L (ρ++[v]) t) ∨
  ((∀ f,C.cw f=none)∧∃ Q:Value→List Arg→Prop,(∀ α,q.L0 C ρ α args Q)∧∀ v N,sh.fit v=true→Q v N→VC (C.plus (N++C.N)) w0 (Kf (C.plus (N++C.N))::NF (C.plus (N++C.N))::ps) T0 R L (ρ++[v]) t)
 | C,w0,ps,T0,R,L,ρ,.br i p t e=>∃ b,p.foldl comp (ρ.getD i undef)=.bool b∧(b=true→VC C w0 ps T0 R L ρ t)∧(b=false→VC C w0 ps T0 R L ρ e)
 | C,w0,ps,T0,R,L,ρ,.sp i p l=>(∃ j:Nat,j<l.length∧p.foldl comp (ρ.getD i undef)=.int .i64 j)∧Fq C w0 ps T0 R L ρ (p.foldl comp (ρ.getD i undef)) 0 l
 | C,w0,ps,T0,R,L,ρ,.ret v hp stk=>∀ α W,xc ρ α stk T0→(∀ (n:Nat) (b:ak),hp[n]?=some (some b)→b.bB ρ α n)→St w0 (aU ρ α 0 hp) [] (gZ w0 ρ α 0 hp++ps) W→R (.returned (v.den ρ α)) W
 | C,w0,ps,T0,R,L,ρ,.loop vals shs t=>(∃ (I:List Value→Prop) (μ:List Value→Nat),(∀ α,I (ah ρ α vals))∧∀ xs,Sh.dL shs xs=true→I xs→VC C w0 ps T0 R (L++[fun(_:Cx) (ys:List Value)=>I ys∧μ ys<μ xs]) (ρ++xs) t) ∨
  ((∀ f,C.cw f=none)∧∃ (I:List Value→List Arg→Prop) (μ:List Value→Nat),(∀ α,∃ N,(∀ y∈N,y∈C.N)∧I (ah ρ α vals) N)∧∀ xs N,Sh.dL shs xs=true→I xs N→VC (C.plus N) w0 (Kf (C.plus N)::NF (C.plus N)::ps) T0 R (L++[fun(C':Cx) (ys:List Value)=>C'.nb=C.nb∧∃ N':List Arg,(∀ y∈N',y∈C'.N)∧I ys N'∧μ ys<μ xs]) (ρ++xs) t)
 | C,w0,ps,T0,R,L,ρ,.again l vals=>∀ α,(L.getD l fun(_:Cx) (_:List Value)=>False) C (ah ρ α vals)
 | _,_,_,_,_,_,_,.bad _ _=>False
def Fq:Cx→fB→List (World→Prop)→List TF→(Ending→World→Prop)→List (Cx→List Value→Prop)→List Value→Value→Nat→List Tree→Prop
 | _,_,_,_,_,_,_,_,_,[]=>True
 | C,w0,ps,T0,R,L,ρ,u,j,t::l=>(u=.int .i64 (j:Int)→VC C w0 ps T0 R L ρ t)∧Fq C w0 ps T0 R L ρ u (j+1) l
end
theorem zw{C:Cx}{w0:fB}{ps:List (World→Prop)}{T0:List TF}{R:Ending→World→Prop}{L:List (Cx→List Value→Prop)}{ρ:List Value}{u:Value}:∀ {l:List Tree}{k j:Nat}{t:Tree},Fq C w0 ps T0 R L ρ u k l→l[j]?=some t→u=.int .i64 ((k+j:Nat):Int)→VC C w0 ps T0 R L ρ t
 | [],_,_,_,_,h,_=>by simp at h
 | t'::l,k,0,t,h,ht,hu=>by
  obtain rfl:t'=t:=af ht
  unfold Fq at h
  exact h.1 hu
 | t'::l,k,j+1,t,h,ht,hu=>by
  unfold Fq at h
  exact zw (k:=k+1) (j:=j) h.2 (af ht) (by rw [hu];congr 2;omega)
def Fu(f g:List (Option V)):Prop:=f.length=g.length∧∀ (d:Nat) (v:V),f[d]?=some (some v)→g[d]?=some (some v)
def kz:List (List (Option V))→List (List (Option V))→Prop
 | [],[]=>True
 | a::l,b::m=>Fu a b∧kz l m
 | _,_=>False
def zu(skip:Nat→Nat→Bool)(l m:List (List (Option V))):Prop:=l.length=m.length∧∀ (k:Nat) (a b:List (Option V)),l[k]?=some a→m[k]?=some b→a.length=b.length∧∀ (d:Nat) (v:V),skip k d=false→a[d]?=some (some v)→b[d]?=some (some v)
structure xf(an:kx)(ws:List Nat)(s0 s:S):Prop where
 fr:s0.fr.length=s.fr.length∧∀ (d:Nat) (v:V),y9 an ws d=false→s0.fr[d]?=some (some v)→s.fr[d]?=some (some v)
 stk:zu (r7 an) s0.stk s.stk
 hp:∀ (n:Nat) (b:ak),s0.hp[n]?=some (some b)→n∉fD an s0→∃ b',s.hp[n]?=some (some b')∧b'.t=b.t∧b'.k=b.k∧b'.c.length=b.c.length∧∀ (k:Nat) (v:V),CA an n k=false→b.c[k]?=some v→b'.c[k]?=some v
 ln:∀ (n:Nat) (b:ak),s0.ln[n]?=some (some b)→s.ln[n]?=some (some b)
 live:∀ (n:Nat) (b:ak),s0.hp[n]?=some (some b)→lv s0.ln n=true
 lps:s0.lps=s.lps
 lpl:∀ q∈s0.lps,lv s0.ln q.1=true
theorem Fu.refl(f:List (Option V)):Fu f f:=⟨rfl,fun _ _ h=>h⟩
theorem kz.refl:∀ l:List (List (Option V)),kz l l
 | []=>trivial
 | a::l=>⟨.refl a,.refl l⟩
theorem xf.refl(an:kx)(ws:List Nat)(s:S)(hl:∀ (n:Nat)(b:ak),s.hp[n]?=some (some b)→lv s.ln n=true)(hlp:∀ q∈s.lps,lv s.ln q.1=true):xf an ws s s:=⟨⟨rfl,fun _ _ _ h=>h⟩,⟨rfl,fun _ _ _ h1 h2=>by rw [h1]at h2;cases h2;exact⟨rfl,fun _ _ _ h=>h⟩⟩,fun n b h _=>⟨b,h,rfl,rfl,rfl,fun _ _ _ h=>h⟩,fun _ _ h=>h,hl,rfl,hlp⟩
theorem nl{skip:Nat→Bool}:∀ {f g:List (Option V)}{k:Nat},nj skip k f g=true→f.length=g.length∧∀ (d:Nat)(v:V),skip (k+d)=false→f[d]?=some (some v)→g[d]?=some (some v)
 | [],[],_,_=>⟨rfl,fun d v _ h=>by simp at h⟩
 | [],_::_,_,h=>by simp [nj]at h
 | _::_,[],_,h=>by simp [nj]at h
 | a::l,b::m,k,h=>by
  simp only [nj,Bool.and_eq_true,Bool.or_eq_true]at h
  obtain⟨h1,h2⟩:=nl h.2
  refine⟨by simp [h1],fun d v hd hv=>?_⟩
  cases d with
  | zero =>
   simp at hv
   subst hv
   rcases h.1 with h3|h3
   ·rw [Nat.add_zero]at hd;rw [hd]at h3;cases h3
   cases b with
   | none=>simp [Nj]at h3
   | some u=>rw [V.kI v u h3];rfl
  | succ d =>
   simpa using h2 d v (by rwa [show k+1+d=k+(d+1) by omega]) (af hv)
theorem vB:∀ {l m:List (List (Option V))},nn l m=true→kz l m
 | [],[],_=>trivial
 | [],_::_,h=>by simp [nn]at h
 | _::_,[],h=>by simp [nn]at h
 | a::l,b::m,h=>by
  simp only [nn,Bool.and_eq_true]at h
  obtain⟨h1,h2⟩:=nl h.1
  exact⟨⟨h1,fun d v hv=>h2 d v rfl hv⟩,vB h.2⟩
theorem xO{skip:Nat→Nat→Bool}:∀ {l m:List (List (Option V))}{k0:Nat},tQ skip k0 l m=true→l.length=m.length∧∀ (k:Nat)(a b:List (Option V)),l[k]?=some a→m[k]?=some b→a.length=b.length∧∀ (d:Nat)(v:V),skip (k0+k) d=false→a[d]?=some (some v)→b[d]?=some (some v)
 | [],[],_,_=>⟨rfl,fun k a b h _=>by simp at h⟩
 | [],_::_,_,h=>by simp [tQ]at h
 | _::_,[],_,h=>by simp [tQ]at h
 | a::l,b::m,k0,h=>by
  simp only [tQ,Bool.and_eq_true]at h
  obtain⟨h1,h2⟩:=nl h.1
  obtain⟨h3,h4⟩:=xO h.2
  refine⟨by simp [h3],fun k x y hx hy=>?_⟩
  cases k with
  | zero =>
   simp at hx hy
   subst hx;subst hy
   exact⟨h1,fun d v hd hv=>h2 d v (by rwa [Nat.zero_add]) hv⟩
  | succ k =>
   have:=h4 k x y (af hx) (af hy)
   exact⟨this.1,fun d v hd hv=>this.2 d v (by rwa [show k0+1+k=k0+(k+1) by omega]) hv⟩
theorem uF{skip:Nat→Nat→Bool}:∀ {l m:List (List (Option V))},kz l m→zu skip l m
 | [],[],_=>⟨rfl,fun k a b h _=>by simp at h⟩
 | [],_::_,h=>by simp [kz]at h
 | _::_,[],h=>by simp [kz]at h
 | a::l,b::m,h=>by
  obtain⟨h1,h2⟩:=h
  obtain⟨h3,h4⟩:=uF (skip:=fun k=>skip (k+1)) h2
  refine⟨by simp [h3],fun k x y hx hy=>?_⟩
  cases k with
  | zero =>
   simp at hx hy
   subst hx;subst hy
   exact⟨h1.1,fun d v _ hv=>h1.2 d v hv⟩
  | succ k=>exact h4 k x y (af hx) (af hy)
theorem F6{an:kx}{l m:List (List (Option V))}(h:BX an l m=true):zu (r7 an) l m:=by
 unfold BX at h
 split at h
 ·obtain⟨h1,h2⟩:=xO h
  exact⟨h1,fun k a b ha hb=>by simpa using h2 k a b ha hb⟩
 exact uF (vB h)
theorem nu{ρ:List Value}{α:Nat→AV}:∀ {l:List (List (Option V))}{T:List TF},xc ρ α l T↔(l.length=T.length∧∀ (k:Nat)(f:List (Option V))(t:TF),l[k]?=some f→T[k]?=some t→Fm ρ α f t.t)
 | [],[]=>by simp [xc]
 | f::l,t::T=>by
  simp only [xc,nu (l:=l) (T:=T),List.length_cons,Nat.add_right_cancel_iff]
  constructor
  ·rintro⟨h1,h2,h3⟩
   refine⟨h2,fun k g u hg hu=>?_⟩
   cases k with
   | zero=>simp at hg hu;subst hg;subst hu;exact h1
   | succ k=>exact h3 k g u (af hg) (af hu)
  rintro⟨h2,h3⟩
  exact⟨h3 0 f t rfl rfl,h2,fun k g u hg hu=>h3 (k+1) g u (af hg) (af hu)⟩
 | [],_::_=>by simp [xc]
 | _::_,[]=>by simp [xc]
theorem BW{skip:Nat→Nat→Bool}{n:Nat}:∀ {l m:List V}{k:Nat},Dx skip n k l m=true→m.length=l.length∧∀ (d:Nat)(v:V),skip n (k+d)=false→l[d]?=some v→m[d]?=some v
 | [],[],_,_=>⟨rfl,fun d v _ h=>by simp at h⟩
 | [],_::_,_,h=>by simp [Dx]at h
 | _::_,[],_,h=>by simp [Dx]at h
 | a::l,b::m,k,h=>by
  simp only [Dx,Bool.and_eq_true,Bool.or_eq_true]at h
  obtain⟨h1,h2⟩:=BW h.2
  refine⟨by simp [h1],fun d v hd hv=>?_⟩
  cases d with
  | zero =>
   simp at hv
   subst hv
   rcases h.1 with h3|h3
   ·rw [Nat.add_zero]at hd;rw [hd]at h3;cases h3
   rw [V.kI _ _ h3];rfl
  | succ d =>
   simpa using h2 d v (by rwa [show k+1+d=k+(d+1) by omega]) (af hv)
theorem lL{dead:List Nat}{skip:Nat→Nat→Bool}:∀ {l m:List (Option ak)}{k:Nat},jg dead skip k l m=true→∀ (n:Nat)(b:ak),l[n]?=some (some b)→k+n∉dead→∃ b',m[n]?=some (some b')∧b'.t=b.t∧b'.k=b.k∧b'.c.length=b.c.length∧∀ (j:Nat)(v:V),skip (k+n) j=false→b.c[j]?=some v→b'.c[j]?=some v
 | [],_,_,_,n,b,hn,_=>by simp at hn
 | none::l,[],k,h,n,b,hn,_=>by simp [jg]at h
 | some _::l,[],k,h,n,b,hn,_=>by simp [jg]at h
 | some _::l,none::m,k,h,n,b,hn,_=>by simp [jg]at h
 | none::l,c::m,k,h,n,b,hn,hd=>by
  simp only [jg]at h
  cases n with
  | zero=>simp at hn
  | succ n =>
   obtain⟨b',h1,h2⟩:=lL h n b (af hn) (by rwa [show k+1+n=k+(n+1) by omega])
   exact⟨b',af h1,by rwa [show k+1+n=k+(n+1) by omega]at h2⟩
 | some a::l,some c::m,k,h,n,b,hn,hd=>by
  simp only [jg,Bool.and_eq_true,Bool.or_eq_true,beq_iff_eq,decide_eq_true_eq]at h
  cases n with
  | zero =>
   simp at hn
   subst hn
   have h:=h.1.resolve_left fun hm=>hd (af hm)
   obtain⟨h3,h4⟩:=BW h.2
   exact⟨c,rfl,h.1.1.symm,h.1.2.symm,h3,fun j v hj hv=>h4 j v (by rwa [Nat.zero_add]) hv⟩
  | succ n =>
   obtain⟨b',h1,h2⟩:=lL h.2 n b (af hn) (by rwa [show k+1+n=k+(n+1) by omega])
   exact⟨b',af h1,by rwa [show k+1+n=k+(n+1) by omega]at h2⟩
theorem FQ{b b':ak}(h:Oy b=some b'):b=b'∧(b'.k=.cells∨∃ k ag,b'.k=.mp k ag):=by
 unfold Oy at h
 split at h
 ·rename_i hk
  obtain rfl:b=b':=af h
  exact⟨rfl,.inl hk⟩
 ·rename_i k ag hk
  obtain rfl:b=b':=af h
  exact⟨rfl,.inr ⟨k,ag,hk⟩⟩
 cases h
theorem Dh{b b':ak}(h:jT b=some b'):b=b'∧b'.k=.cells:=by
 unfold jT at h
 split at h
 ·rename_i hk
  obtain rfl:b=b':=af h
  exact⟨rfl,hk⟩
 cases h
theorem Dy{l m:List (Option ak)}(h:jg [] iz 0 l m=true){n:Nat}{b:ak}(hn:l[n]?=some (some b)):m[n]?=some (some b):=by
 obtain⟨b',h1,h2,h3,h4,h5⟩:=lL h n b hn ai
 have:b'.c=b.c:=by
  apply List.ext_getElem?
  intro j
  cases hq:b.c[j]? with
  | some u=>exact h5 j u rfl hq
  | none=>rw [List.getElem?_eq_none_iff]at hq ⊢;omega
 obtain⟨c,t,k⟩:=b
 obtain⟨c',t',k'⟩:=b'
 simp only at h2 h3 this
 subst h2;subst h3;subst this
 exact h1
theorem DP{β γ:Type}{f:β→Option γ}:∀ {xs:List β}{ys:List γ},xs.mapM f=some ys→ys.length=xs.length∧∀ (j:Nat)(x:β),xs[j]?=some x→∃ v,ys[j]?=some v∧f x=some v:=by
 intro xs
 induction xs with
 | nil=>intro ys h;simp at h;subst h;exact⟨rfl,fun j x hx=>by simp at hx⟩
 | cons x xs ih =>
  intro ys h
  simp only [List.mapM_cons,Option.bind_eq_bind,Option.bind_eq_some_iff]at h
  obtain⟨v,hv,vs,hvs,h⟩:=h
  simp at h
  subst h
  obtain⟨h1,h2⟩:=ih hvs
  refine⟨by simp [h1],fun j y hy=>?_⟩
  cases j with
  | zero=>simp at hy;subst hy;exact⟨v,rfl,hv⟩
  | succ j=>simpa using h2 j y (af hy)
theorem vf{an:kx}{s:S}{vals:List V}(h:pX an s=some vals):vals.length=an.pos.length ∧
 ∀ (j:Nat) (p:Pos) (hk:HK),an.pos[j]?=some (p,hk)→∃ u v,p.get s=some u∧ga s hk u=some v∧vals[j]?=some v:=by
 obtain⟨h1,h2⟩:=DP h
 refine⟨h1,fun j p hk hj=>?_⟩
 obtain⟨v,hv,hf⟩:=h2 j _ hj
 obtain⟨u,hu,hh⟩:=Option.bind_eq_some_iff.1 hf
 exact⟨u,v,hu,hh,hv⟩
theorem rJ{an:kx}{p:Pos}{j:Nat}(h:po an p=some j):∃ hk,an.pos[j]?=some (p,hk):=by
 unfold po at h
 obtain⟨hlt,h2,_⟩:=List.findIdx?_eq_some_iff_getElem.1 h
 have h2:(an.pos[j]).1=p:=af h2
 exact⟨(an.pos[j]).2,by rw [List.getElem?_eq_getElem hlt,← h2]⟩
theorem Eg{an:kx}{m base:Nat}{p:Pos}{u:V}(h:AK an m base p=some u):∃ (j:Nat)(hk:HK),an.pos[j]?=some (p,hk)∧u=hk.v m base j:=by
 obtain⟨j,hj,h2⟩:=Option.bind_eq_some_iff.1 h
 obtain⟨hk,hp⟩:=rJ hj
 rw [hp]at h2
 exact⟨j,hk,hp,by simpa using h2.symm⟩
theorem Gi{s:S}{u v:V}(h:ga s .one u=some v):v=u∧u.one s.sh=true:=by
 have h:(if u.one s.sh then some u else none)=some v:=by cases u<;>simpa [ga]using h
 split at h
 ·rename_i h1
  exact⟨by simpa using h.symm,h1⟩
 cases h
theorem Js{s:S}{n:Nat}{u v:V}(h:ga s (.ag n) u=some v):∃ cs,u=.a cs∧cs.length=n∧pN s.sh cs=true∧v=.a cs:=by
 cases u<;>simp [ga]at h
 exact⟨_,rfl,h.1.1,h.1.2,h.2.symm⟩
theorem join_some{α:Type}{x:Option (Option α)}{b:α}(h:x.join=some b):x=some (some b):=by
 cases x with
 | none=>simp at h
 | some o=>simp at h;rw [h]
theorem qT{s:S}{u v:V}(h:ga s .any u=some v):v=u:=by
 cases u<;>simp [ga]at h<;>exact h.symm
theorem x6{s:S}{sz:Nat}{u v:V}(h:ga s (.ext sz) u=some v):∃ m b,u=.row m∧s.hp[m]?=some (some b)∧b.k=.ext sz∧v=.cat b.c:=by
 cases u<;>simp only [ga,reduceCtorEq]at h
 split at h
 ·rename_i b hb
  split at h
  ·rename_i hk
   exact⟨_,b,rfl,join_some hb,hk,by simpa using h.symm⟩
  cases h
 cases h
theorem x7{s:S}{sz:Nat}{e:TypeId}{u v:V}(h:ga s (.row sz e) u=some v):∃ m b,u=.row m∧s.hp[m]?=some (some b)∧b.k=.row sz∧b.t=e∧v=.cat b.c:=by
 cases u<;>simp only [ga,reduceCtorEq]at h
 split at h
 ·rename_i b hb
  split at h
  ·rename_i hk
   exact⟨_,b,rfl,join_some hb,hk.1,hk.2,by simpa using h.symm⟩
  cases h
 cases h
theorem oH{an:kx}{m base:Nat}{p:Pos}(h:AK an m base p=none):(po an p).isSome=false:=by
 cases hq:po an p with
 | none=>rfl
 | some j =>
  obtain⟨hk,hp⟩:=rJ hq
  simp [AK,hq,hp]at h
section
variable {C:Cx}{w0:fB}{ps:List (World→Prop)}{T:List TF}{ρ ρ0:List Value}{s s0:S}{a:Act}{W:World}{α:Nat→AV}
theorem jB(hg:Good ρ s)(hf:Fm ρ α s.fr a.tmps){d:Nat}{v:V}(h:gK s d=some v):a.tmps[d]?=some (v.den ρ α):=by
 have h1:s.ev (.tmp d)=some v:=h
 have h2:=ox hg hf h1
 unfold gK at h
 cases hq:s.fr[d]? with
 | none=>simp [hq,yf]at h
 | some o =>
  have hlt:d<a.tmps.size:=by rw [hf.1];exact(List.getElem?_eq_some_iff.1 hq).1
  rw [← h2]
  simp [Act.eval,Array.getD_eq_getD_getElem?,hlt]
theorem iU(hp:ρ0<+:ρ){hp0:List (Option ak)}{x:V}(hx:x.wf hp0 ρ0.length=true):x.den ρ α=x.den ρ0 α:=V.qG (hp:=hp0) (fun _ _=>rfl) hp x hx
theorem Fu.fm{f g:List (Option V)}{tmps:Array Value}(h:Fu f g)(hf:Fm ρ α g tmps):Fm ρ α f tmps:=⟨hf.1.trans h.1.symm,fun d v hv=>hf.2 d v (h.2 d v hv)⟩
theorem kz.lO:∀ {l m:List (List (Option V))}{T:List TF},kz l m→xc ρ α m T→xc ρ α l T
 | [],[],_,_,h=>h
 | a::l,b::m,[],_,h=>h
 | a::l,b::m,t::T,h,hf=>⟨h.1.fm hf.1,kz.lO h.2 hf.2⟩
 | [],_::_,_,h,_=>h.elim
 | _::_,[],_,h,_=>h.elim
theorem MJ{ρ ρ':List Value}{α:Nat→AV}{b b':ak}{k:Nat}(h2:b'.t=b.t)(h4:b'.k=b.k)(h3:ah ρ' α b.c=ah ρ α b'.c):b.ch ρ' α k=b'.ch ρ α k:=by
 unfold ak.ch ak.xs
 rw [h2,h4,h3]
theorem na{ρ ρ':List Value}{α:Nat→AV}:∀ {l m:List (Option ak)}{k:Nat},(∀ (n:Nat)(b:ak),l[n]?=some (some b)→∃ b',m[n]?=some (some b')∧b'.t=b.t∧b'.k=b.k∧ah ρ' α b.c=ah ρ α b'.c)→List.Sublist (aU ρ' α k l) (aU ρ α k m)
 | [],_,_,_=>by simp [aU]
 | none::l,[],k,h=>by
  have ih:List.Sublist (aU ρ' α (k+1) l) (aU ρ α (k+1) []):=na fun n b hb=>by
   obtain⟨b',h1,_⟩:=h (n+1) b (af hb)
   simp at h1
  simpa [aU]using ih
 | some b::l,[],k,h=>by
  obtain⟨b',h1,_⟩:=h 0 b rfl
  simp at h1
 | none::l,c::m,k,h=>by
  have ih:List.Sublist (aU ρ' α (k+1) l) (aU ρ α (k+1) m):=na fun n b hb=>by simpa using h (n+1) b (af hb)
  cases c with
  | none=>simpa [aU]using ih
  | some c =>
   unfold aU
   cases c.ch ρ α k with
   | none=>simpa using ih
   | some e=>simpa using ih.cons _
 | some b::l,c::m,k,h=>by
  have ih:List.Sublist (aU ρ' α (k+1) l) (aU ρ α (k+1) m):=na fun n b hb=>by simpa using h (n+1) b (af hb)
  obtain⟨b',h1,h2,h4,h3⟩:=h 0 b rfl
  simp at h1
  subst h1
  unfold aU
  rw [MJ h2 h4 h3]
  exact(List.Sublist.refl _).append ih
theorem iR{ρ:List Value}{α:Nat→AV}:∀ {hp:List (Option ak)}{k:Nat}{e:Ch},e∈aU ρ α k hp→∃ (n:Nat)(b:ak),hp[n]?=some (some b)∧b.ch ρ α (k+n)=some e
 | [],_,_,h=>by simp [aU]at h
 | none::l,k,e,h=>by
  unfold aU at h
  obtain⟨n,b,h1,h2⟩:=iR h
  exact⟨n+1,b,af h1,by rwa [show k+(n+1)=k+1+n by omega]⟩
 | some b::l,k,e,h=>by
  unfold aU at h
  rcases List.mem_append.1 h with h|h
  ·exact⟨0,b,rfl,by simpa [Option.mem_toList]using h⟩
  obtain⟨n,b',h1,h2⟩:=iR h
  exact⟨n+1,b',af h1,by rwa [show k+(n+1)=k+1+n by omega]⟩
theorem ot{ρ:List Value}{α:Nat→AV}:∀ {hp:List (Option ak)}{k:Nat},(∀ (n1 n2:Nat)(b1 b2:ak)(e1 e2:Ch),n1<n2→hp[n1]?=some (some b1)→b1.ch ρ α (k+n1)=some e1→hp[n2]?=some (some b2)→b2.ch ρ α (k+n2)=some e2→e1.id≠e2.id)→((aU ρ α k hp).map (·.id)).Nodup
 | [],_,_=>by simp [aU]
 | none::l,k,h=>by
  unfold aU
  exact ot fun n1 n2 b1 b2 e1 e2 hlt h1 h2 h3 h4=>h (n1+1) (n2+1) b1 b2 e1 e2 ab (af h1) (by rwa [show k+(n1+1)=k+1+n1 by omega]) (af h3) (by rwa [show k+(n2+1)=k+1+n2 by omega])
 | some b::l,k,h=>by
  unfold aU
  have ih:((aU ρ α (k+1) l).map (·.id)).Nodup:=ot fun n1 n2 b1 b2 e1 e2 hlt h1 h2 h3 h4=>h (n1+1) (n2+1) b1 b2 e1 e2 ab (af h1) (by rwa [show k+(n1+1)=k+1+n1 by omega]) (af h3) (by rwa [show k+(n2+1)=k+1+n2 by omega])
  cases hb:b.ch ρ α k with
  | none=>simpa using ih
  | some e =>
   simp only [Option.toList_some,List.cons_append,List.nil_append,List.map_cons]
   refine List.nodup_cons.2 ⟨fun hm=>?_,ih⟩
   obtain⟨e2,he2,hid⟩:=List.mem_map.1 hm
   obtain⟨n,b2,h1,h2⟩:=iR he2
   exact h 0 (n+1) b b2 e e2 ab rfl (by rwa [Nat.add_zero]) (af h1) (by rwa [show k+(n+1)=k+1+n by omega]) hid.symm
theorem Md{hs hs':List Ch}{os:List Ow}{ps:List (World→Prop)}(h:St w0 hs os ps W)(hm:∀ e∈hs',e∈hs)(hn:(hs'.map (·.id)).Nodup):St w0 hs' os ps W:=by
 have hmm:∀ b∈hs'.map (·.id),b∈hs.map (·.id):=fun b hb=>by
  obtain⟨e,he,rfl⟩:=List.mem_map.1 hb
  exact List.mem_map.2 ⟨e,hm e he,rfl⟩
 have hnd:=List.nodup_append.1 h.nodup
 refine⟨h.b5,fun e he=>h.dS e (hm e he),h.own,List.nodup_append.2 ⟨hn,hnd.2.1,fun a ha b hb=>hnd.2.2 a (hmm a ha) b hb⟩,fun p hp W' hW=>h.pers p hp W' ⟨hW.size,fun b hb hnm=>hW.block b hb fun hq=>hnm ?_⟩⟩
 rcases List.mem_append.1 hq with hq|hq
 ·exact List.mem_append.2 (.inl (hmm b hq))
 exact List.mem_append.2 (.inr hq)
theorem oi.re{α α':Nat→AV}{ok ok':Nat→Bool}:∀ {T:List TF}{lps:List (Nat×LS)},oi α ok lps T→(∀ q∈lps,ok' q.1=true∧α' q.1=α q.1)→oi α' ok' lps T
 | [],_,h,_=>h
 | t::T,lps,h,hq=>by
  unfold oi at h ⊢
  refine⟨h.1,?_⟩
  have h:=h.2
  split at h
  ·exact oi.re h hq
  cases lps with
  | nil=>exact h.elim
  | cons q lps' =>
   obtain⟨⟨a,b,c⟩,d⟩:=h
   obtain⟨h1,h2⟩:=hq q (List.mem_cons_self ..)
   exact⟨⟨h1,by rw [h2];exact b,c⟩,oi.re d fun q' hq'=>hq q' (List.mem_cons_of_mem _ hq')⟩
theorem oi.ok{α:Nat→AV}{ok:Nat→Bool}:∀ {T:List TF}{lps:List (Nat×LS)},oi α ok lps T→∀ q∈lps,ok q.1=true
 | [],lps,h,q,hq=>by
  have h:lps=[]:=h
  subst h;cases hq
 | t::T,lps,h,q,hq=>by
  unfold oi at h
  have h:=h.2
  split at h
  ·exact oi.ok h q hq
  cases lps with
  | nil=>cases hq
  | cons q' lps' =>
   obtain⟨⟨a,b,c⟩,d⟩:=h
   rcases List.mem_cons.1 hq with rfl|hq
   ·exact a
   exact oi.ok d q hq
def xb(w0:fB)(ρ':List Value)(α':Nat→AV)(n:Nat)(b:ak)(ρ:List Value)(α:Nat→AV)(n':Nat)(b':ak):Prop :=
 (b.ch ρ' α' n=b'.ch ρ α n')∧(b'.bB ρ α n'→b.bB ρ' α' n)∧b.ex w0 ρ' α' n=b'.ex w0 ρ α n'
theorem FI{ρ':List Value}{α':Nat→AV}{n n':Nat}{b b':ak}(hα:α' n=α n')(ht:b'.t=b.t)(hk:b'.k=b.k)(hd:ah ρ' α' b.c=ah ρ α b'.c):xb w0 ρ' α' n b ρ α n' b':=by
 refine⟨?_,?_,?_⟩
 ·unfold ak.ch ak.xs;rw [hα,ht,hk,hd]
 ·intro h;unfold ak.bB ak.xs at h ⊢;rw [hα,hd];rwa [hk]at h
 unfold ak.ex ak.xs;rw [hα,hk,hd,ht]
theorem tV{an:kx}{ws:List Nat}{vals:List V}(hI:aF w0 ps T ρ s a W α)(hp:ρ0<+:ρ)(hg:Good ρ0 s0)(hw:s0.Wf ρ0.length)(hM:xf an ws s0 s)(hv:pX an s=some vals)(hno:nF an s0 s=true) :
 Inv w0 ps T (ρ0++ah ρ α vals) (dV an ws s0) a W∧Sh.dL (an.pos.map fun e=>e.2.sh) (ah ρ α vals)=true:=by
 obtain⟨hl,hs⟩:=vf hv
 simp only [nF,Bool.and_eq_true,decide_eq_true_eq]at hno
 obtain⟨hlen0,hno⟩:=hno
 have hno':∀ i,i<an.pos.length→kA an i=true→∃ n,dR an s i=some n∧(s0.hp.length≤n∨n∈fD an s0)∧∀ j,j<an.pos.length→i≠j→kA an j=true→dR an s j≠some n:=by
  intro i hi hr
  have:=List.all_eq_true.1 hno i (List.mem_range.2 hi)
  rw [hr]at this
  simp only [Bool.not_true,Bool.false_or]at this
  split at this
  ·rename_i n hn
   simp only [Bool.and_eq_true,Bool.or_eq_true,decide_eq_true_eq]at this
   refine⟨n,hn,this.1.imp id fun h=>af h,fun j hj hij hrj=>?_⟩
   have h2:=List.all_eq_true.1 this.2 j (List.mem_range.2 hj)
   rw [hrj]at h2
   simp only [Bool.or_eq_true,decide_eq_true_eq,Bool.not_true,Bool.false_eq_true,or_false,Bool.not_eq_true',beq_eq_false_iff_ne]at h2
   exact h2.resolve_left hij
  cases this
 have hxl:(ah ρ α vals).length=an.pos.length:=by rw [aq,hl]
 have hpx:ρ0<+:ρ0++ah ρ α vals:=⟨_,rfl⟩
 have hlen:ρ0.length≤(ρ0++ah ρ α vals).length:=ai
 have hsh:s0.sh.length=ρ0.length:=hg.len
 let α':Nat→AV:=fun n=>if n<s0.hp.length then α n else match dR an s (n-s0.hp.length)with
  | some n'=>α n'
  | none=>α n
 have hα0:∀ n,n<s0.hp.length→α' n=α n:=fun n hn=>if_pos hn
 have hα1:∀ j n',dR an s j=some n'→α' (s0.hp.length+j)=α n':=fun j n' h=>by
  show(if s0.hp.length+j<s0.hp.length then _ else _)=_
  rw [if_neg ab,Nat.add_sub_cancel_left,h]
 have hαl:∀ n,lv s0.ln n=true→α' n=α n:=fun n hn=>by
  obtain⟨b,hb⟩:=cX.1 hn
  exact hα0 n (by rw [hlen0];exact(List.getElem?_eq_some_iff.1 hb).1)
 have hlv:∀ n,lv s0.ln n=true→lv (s0.ln++nG an s0.sh.length) n=true:=fun n hn=>by
  obtain⟨b,hb⟩:=cX.1 hn
  exact cX.2 ⟨b,by rw [List.getElem?_append_left (List.getElem?_eq_some_iff.1 hb).1];exact hb⟩
 have hold:∀ (x:V),x.wf s0.ln ρ0.length=true→x.den (ρ0++ah ρ α vals) α'=x.den ρ α:=fun x hx=>by
  rw [V.qG (hp:=s0.ln) hαl hpx x hx,iU hp hx]
 have holdL:∀ (l:List V),dw s0.ln ρ0.length l=true→ah (ρ0++ah ρ α vals) α' l=ah ρ α l:=fun l hx=>by
  rw [aE _ _ l,aE _ _ l]
  exact List.map_congr_left fun x hm=>hold x (dF hx x hm)
 have hxj:∀ (j:Nat) (v:V),vals[j]?=some v→(ρ0++ah ρ α vals).getD (s0.sh.length+j) undef=v.den ρ α:=fun j v hj=>by
  have h2:=dC (ρ:=ρ) (α:=α) hj
  rw [hsh,List.getD_eq_getElem?_getD,List.getElem?_append_right ab,Nat.add_sub_cancel_left,h2]
  rfl
 have hpos:∀ (j:Nat) (p:Pos) (hk:HK),an.pos[j]?=some (p,hk)→∃ u v,p.get s=some u∧ga s hk u=some v∧vals[j]?=some v∧hk.sh.fit (v.den ρ α)=true∧(hk.v s0.sh.length s0.hp.length j).den (ρ0++ah ρ α vals) α'=u.den ρ α∧(hk.named=true→∃ n,u=.row n∧dR an s j=some n):=by
  intro j p hk hj
  obtain⟨u,v,hu,hh,hv2⟩:=hs j p hk hj
  refine⟨u,v,hu,hh,hv2,?_⟩
  have hx:=hxj j v hv2
  cases hk with
  | one =>
   obtain⟨rfl,h1⟩:=Gi hh
   have hf:Sh.one.fit (v.den ρ α)=true:=by simp only [Sh.fit];exact oF hI.good (List.prefix_refl _) α h1
   exact⟨hf,iV _ _ _ .one [] _ hx hf,nofun⟩
  | ag n =>
   obtain⟨cs,rfl,h1,h2,rfl⟩:=Js hh
   have hf:(Sh.ag n).fit ((V.a cs).den ρ α)=true:=by
    have h2:=qj hI.good (List.prefix_refl _) α h2
    simp only [Sh.fit,V.den,aq,h1,Bool.and_eq_true,beq_iff_eq]
    exact⟨trivial,af h2⟩
   exact⟨hf,iV _ _ _ (.ag n) [] _ hx hf,nofun⟩
  | ext sz =>
   obtain⟨m,b,rfl,hb,hbk,rfl⟩:=x6 hh
   have hnm:dR an s j=some m:=by simp [dR,hj,HK.named,hu,nameOf]
   exact⟨rfl,by simp only [HK.v,V.den];rw [hα1 j m hnm],fun _=>⟨m,rfl,hnm⟩⟩
  | row sz e =>
   obtain⟨m,b,rfl,hb,hbk,hbt,rfl⟩:=x7 hh
   have hnm:dR an s j=some m:=by simp [dR,hj,HK.named,hu,nameOf]
   exact⟨rfl,by simp only [HK.v,V.den];rw [hα1 j m hnm],fun _=>⟨m,rfl,hnm⟩⟩
  | any =>
   obtain rfl:=qT hh
   exact⟨rfl,iV _ _ _ .any [] _ hx rfl,nofun⟩
 have hposV:∀ (p:Pos) (u':V),AK an s0.sh.length s0.hp.length p=some u'→∃ u,p.get s=some u∧u'.den (ρ0++ah ρ α vals) α'=u.den ρ α∧u'.wf (s0.ln++nG an s0.sh.length) (ρ0++ah ρ α vals).length=true:=by
  intro p u' h
  obtain⟨j,hk,hj,rfl⟩:=Eg h
  obtain⟨u,v,h1,h2,h3,h4,h5,h6⟩:=hpos j p hk hj
  refine⟨u,h1,h5,?_⟩
  have hjl:j<an.pos.length:=(List.getElem?_eq_some_iff.1 hj).1
  have hlvn:hk.named=true→lv (s0.ln++nG an s0.sh.length) (s0.hp.length+j)=true:=fun hn=>by
   cases hk<;>simp [HK.named]at hn
   ·exact cX.2 ⟨_,by rw [hlen0,List.getElem?_append_right ab,Nat.add_sub_cancel_left];simp [nG,List.getElem?_mapIdx,hj,HK.dS];rfl⟩
   exact cX.2 ⟨_,by rw [hlen0,List.getElem?_append_right ab,Nat.add_sub_cancel_left];simp [nG,List.getElem?_mapIdx,hj,HK.dS];rfl⟩
  cases hk with
  | one=>simp only [HK.v,Sh.exp,V.wf,decide_eq_true_eq,List.length_append,hxl];omega
  | ag n =>
   simp only [HK.v,Sh.exp,V.wf]
   refine ki fun x hx=>?_
   obtain⟨i,_,rfl⟩:=List.mem_map.1 hx
   simp only [V.wf,decide_eq_true_eq,List.length_append,hxl];omega
  | ext sz=>exact hlvn rfl
  | row sz e=>exact hlvn rfl
  | any=>simp only [HK.v,Sh.exp,V.wf,decide_eq_true_eq,List.length_append,hxl];omega
 have hxlen:∀ j,j<an.pos.length→s0.sh.length+j<(ρ0++ah ρ α vals).length:=fun j hj=>by simp only [List.length_append,hxl];omega
 have hnew:∀ (j:Nat) (b:ak),(nG an s0.sh.length)[j]?=some (some b)→∃ n' b',dR an s j=some n'∧s.hp[n']?=some (some b')∧xb w0 (ρ0++ah ρ α vals) α' (s0.hp.length+j) b ρ α n' b'∧b.c=[.x (s0.sh.length+j) []]∧j<an.pos.length∧(b.own=true→kA an j=true):=by
  intro j b hb
  simp only [nG,List.getElem?_mapIdx,Option.map_eq_some_iff]at hb
  obtain⟨⟨p,hk⟩,hj,hb⟩:=hb
  obtain⟨u,v,h1,h2,h3,h4,h5,h6⟩:=hpos j p hk hj
  have hx:=hxj j v h3
  have hjl:j<an.pos.length:=(List.getElem?_eq_some_iff.1 hj).1
  have key:∀ (n':Nat) (b':ak),dR an s j=some n'→s.hp[n']?=some (some b')→v=.cat b'.c→b.c=[.x (s0.sh.length+j) []]→(b.k=b'.k∧((∃ sz,b.k=.ext sz)∨∃ sz,b.k=.row sz∧b.t=b'.t))→xb w0 (ρ0++ah ρ α vals) α' (s0.hp.length+j) b ρ α n' b':=by
   intro n' b' hn hb' hvv hc hkk
   subst hvv
   have hxs:b.xs (ρ0++ah ρ α vals) α'=b'.xs ρ α:=by
    unfold ak.xs
    rw [hc]
    simp only [ah,V.den,List.foldl_nil,hx,List.flatMap_cons,List.flatMap_nil,ae,List.append_nil]
   have hα2:=hα1 j n' hn
   refine⟨?_,?_,?_⟩
   ·unfold ak.ch
    rw [← hkk.1,hα2,hxs]
    rcases hkk.2 with ⟨sz,e⟩|⟨sz,e,e2⟩<;>rw [e]
    rw [e2]
   ·intro hr
    unfold ak.bB at hr ⊢
    rw [hα2,hxs]
    rwa [← hkk.1]at hr
   unfold ak.ex
   rw [← hkk.1,hα2,hxs]
   rcases hkk.2 with ⟨sz,e⟩|⟨sz,e,_⟩<;>rw [e]
  cases hk with
  | one=>simp [HK.dS]at hb
  | ag n=>simp [HK.dS]at hb
  | any=>simp [HK.dS]at hb
  | ext sz =>
   obtain rfl:b=⟨[.x (s0.sh.length+j) []],0,.ext sz⟩:=by simpa [HK.dS]using hb.symm
   obtain⟨n,b',rfl,hb',hbk,rfl⟩:=x6 h2
   obtain⟨n2,e2,hn⟩:=h6 rfl
   cases e2
   exact⟨n,b',hn,hb',key n b' hn hb' rfl rfl ⟨hbk.symm,.inl ⟨sz,rfl⟩⟩,rfl,hjl,nofun⟩
  | row sz e =>
   obtain rfl:b=⟨[.x (s0.sh.length+j) []],e,.row sz⟩:=by simpa [HK.dS]using hb.symm
   obtain⟨n,b',rfl,hb',hbk,hbt,rfl⟩:=x7 h2
   obtain⟨n2,e2,hn⟩:=h6 rfl
   cases e2
   exact⟨n,b',hn,hb',key n b' hn hb' rfl rfl ⟨hbk.symm,.inr ⟨sz,rfl,hbt.symm⟩⟩,rfl,hjl,fun _=>by simp [kA,hj,HK.Kv]⟩
 have holdB:∀ (n:Nat) (b:ak),(oz an s0.sh.length s0.hp.length (fD an s0) s0.hp)[n]?=some (some b)→n<s0.hp.length∧(b=bH∨(n∉fD an s0∧dw (s0.ln++nG an s0.sh.length) (ρ0++ah ρ α vals).length b.c=true∧∃ b',s.hp[n]?=some (some b')∧xb w0 (ρ0++ah ρ α vals) α' n b ρ α n b')):=by
  intro n b hb
  simp only [oz,List.getElem?_mapIdx,Option.map_eq_some_iff]at hb
  obtain⟨o,ho,b0,hb0,hb⟩:=hb
  subst hb0
  have hnl:n<s0.hp.length:=(List.getElem?_eq_some_iff.1 ho).1
  refine⟨hnl,?_⟩
  split at hb
  ·exact .inl hb.symm
  rename_i hdead
  right
  have hnd:n∉fD an s0:=af hdead
  obtain⟨b',h4,h5,h5k,h6,h7⟩:=hM.hp n b0 ho hnd
  subst hb
  have hw0:=hw.hp b0 (List.mem_of_getElem? ho)
  refine⟨hnd,ki fun v' hv'=>?_,b',h4,FI (hα0 n hnl) h5 h5k ?_⟩
  ·obtain⟨k,hk⟩:=List.mem_iff_getElem?.1 hv'
   simp only [List.getElem?_mapIdx,Option.map_eq_some_iff]at hk
   obtain⟨u,hu,hk⟩:=hk
   split at hk
   ·rename_i u' hu'
    subst hk
    obtain⟨_,_,_,h⟩:=hposV _ _ hu'
    exact h
   subst hk
   exact V.eP hlv hlen _ (dF hw0 _ (List.mem_of_getElem? hu))
  apply List.ext_getElem?
  intro k
  rw [aE (ρ0++ah ρ α vals),aE ρ α b'.c,List.getElem?_map,List.getElem?_map,List.getElem?_mapIdx]
  cases hq:b0.c[k]? with
  | none =>
   have:b'.c[k]?=none:=by rw [List.getElem?_eq_none_iff]at *;omega
   rw [this];rfl
  | some u =>
   simp only [Option.map_some]
   split
   ·rename_i u' hu'
    obtain⟨u2,g1,g2,_⟩:=hposV _ _ hu'
    rw [g2]
    simp only [Pos.get,h4,Option.join_some,Option.bind_some]at g1
    obtain⟨b2,hb2,g3⟩:=Option.bind_eq_some_iff.1 g1
    obtain⟨rfl,_⟩:=FQ hb2
    rw [g3];rfl
   rename_i hpn
   have hsk:CA an n k=false:=oH hpn
   rw [h7 k u hsk hq]
   simp only [Option.map_some]
   rw [hold u (dF hw0 _ (List.mem_of_getElem? hq))]
 have happ:∀ (l:List (Option ak)) (n:Nat) (b:ak),l.length=s0.hp.length→(l++nG an s0.sh.length)[n]?=some (some b)→(n<s0.hp.length∧l[n]?=some (some b))∨∃ j,n=s0.hp.length+j∧(nG an s0.sh.length)[j]?=some (some b):=by
  intro l n b hll h
  rw [List.getElem?_append]at h
  split at h
  ·rename_i hlt;exact .inl ⟨ab,h⟩
  rename_i hge;exact .inr ⟨n-l.length,ab,h⟩
 have hfl:(oz an s0.sh.length s0.hp.length (fD an s0) s0.hp).length=s0.hp.length:=by simp [oz]
 have hall:∀ (n:Nat) (b:ak),(dV an ws s0).hp[n]?=some (some b)→(b.ch (ρ0++ah ρ α vals) α' n=none∧b.bB (ρ0++ah ρ α vals) α' n∧b.own=true∧n<s0.hp.length)∨∃ n' b',s.hp[n']?=some (some b')∧xb w0 (ρ0++ah ρ α vals) α' n b ρ α n' b'∧((n<s0.hp.length∧n'=n∧n∉fD an s0)∨∃ j,n=s0.hp.length+j∧j<an.pos.length∧dR an s j=some n'∧(b.own=true→kA an j=true)):=by
  intro n b hb
  rcases happ _ n b hfl hb with ⟨hlt,h⟩|⟨j,rfl,h⟩
  ·obtain⟨_,h2⟩:=holdB n b h
   rcases h2 with rfl|⟨h2,_,b',h3,h4⟩
   ·exact .inl ⟨rfl,trivial,rfl,hlt⟩
   exact .inr ⟨n,b',h3,h4,.inl ⟨hlt,rfl,h2⟩⟩
  obtain⟨n',b',h1,h2,h3,_,h4,h5⟩:=hnew j b h
  exact .inr ⟨n',b',h2,h3,.inr ⟨j,rfl,h4,h1,h5⟩⟩
 have hwh:FA (s0.ln++nG an s0.sh.length) (ρ0++ah ρ α vals).length (dV an ws s0).hp:=by
  intro b hb
  obtain⟨n,hn⟩:=List.mem_iff_getElem?.1 hb
  rcases happ _ n b hfl hn with ⟨hlt,h⟩|⟨j,rfl,h⟩
  ·obtain⟨_,h2⟩:=holdB n b h
   rcases h2 with rfl|⟨_,h2,_⟩
   ·rfl
   exact h2
  obtain⟨n',b',_,_,_,hc,h4,_⟩:=hnew j b h
  rw [hc]
  simp only [dw,V.wf,Bool.and_true,decide_eq_true_eq]
  exact hxlen j h4
 have hos:dP a (dV an ws s0) T=dP a s T:=by show gd a.defers++eV s0.lps T=_;rw [hM.lps];rfl
 refine⟨⟨α',⟨hI.defers.1,by show oi α' _ s0.lps T;rw [hM.lps];exact hI.defers.2.re fun q hq=>⟨hlv _ (hM.lpl q (by rw [hM.lps];exact hq)),hαl _ (hM.lpl q (by rw [hM.lps];exact hq))⟩⟩,⟨?_,?_,?_⟩,⟨?_,?_,hwh,?_⟩,⟨?_,?_⟩,?_,?_,?_,?_⟩,?_⟩
 ·simp [dV,hsh,hxl]
 ·intro i h hi
  simp only [dV]at hi
  by_cases hlt:i<s0.sh.length
  ·rw [List.getElem?_append_left hlt]at hi
   have:=hg.fit i h hi
   rwa [List.getD_eq_getElem?_getD,List.getElem?_append_left ab,← List.getD_eq_getElem?_getD]
  rw [List.getElem?_append_right ab,List.getElem?_map,Option.map_eq_some_iff]at hi
  obtain⟨⟨p,hk⟩,hj,rfl⟩:=hi
  obtain⟨u,v,h1,h2,h3,h4,_⟩:=hpos _ p hk hj
  have:=hxj _ v h3
  rw [show s0.sh.length+(i-s0.sh.length)=i by omega]at this
  rw [this]
  exact h4
 ·intro e he
  obtain⟨h3,h4⟩:=hg.kn e he
  refine⟨aw,?_⟩
  rwa [List.getD_eq_getElem?_getD,List.getElem?_append_left h3,← List.getD_eq_getElem?_getD]
 ·intro v hv'
  obtain⟨d,hd⟩:=List.mem_iff_getElem?.1 hv'
  simp only [dV,qa,List.getElem?_mapIdx,Option.map_eq_some_iff]at hd
  obtain⟨o,ho,hd⟩:=hd
  split at hd
  ·rename_i u' hu'
   obtain rfl:u'=v:=af hd
   obtain⟨_,_,_,h⟩:=hposV _ _ hu'
   exact h
  split at hd
  ·cases hd
  subst hd
  exact V.eP hlv hlen v (hw.fr v (List.mem_of_getElem? ho))
 ·intro f hf
  simp only [dV,nw]at hf
  split at hf
  ·obtain⟨k,hk⟩:=List.mem_iff_getElem?.1 hf
   simp only [List.getElem?_mapIdx,Option.map_eq_some_iff]at hk
   obtain⟨f0,hf0,rfl⟩:=hk
   intro v hv'
   obtain⟨d,hd⟩:=List.mem_iff_getElem?.1 hv'
   simp only [List.getElem?_mapIdx,Option.map_eq_some_iff]at hd
   obtain⟨o,ho,hd⟩:=hd
   split at hd
   ·rename_i u' hu'
    obtain rfl:u'=v:=af hd
    obtain⟨_,_,_,h⟩:=hposV _ _ hu'
    exact h
   split at hd
   ·cases hd
   subst hd
   exact V.eP hlv hlen v (hw.stk f0 (List.mem_of_getElem? hf0) v (List.mem_of_getElem? ho))
  exact(hw.stk f hf).mono hlv hlen
 ·intro b hb
  obtain⟨n,hn⟩:=List.mem_iff_getElem?.1 hb
  rcases happ _ n b (by rw [hlen0]) hn with ⟨hlt,h⟩|⟨j,rfl,h⟩
  ·exact bS hlv hlen _ (hw.ln b (List.mem_of_getElem? h))
  obtain⟨n',b',_,_,_,hc,h4,_⟩:=hnew j b h
  rw [hc]
  simp only [dw,V.wf,Bool.and_true,decide_eq_true_eq]
  exact hxlen j h4
 ·simp [dV,qa,hI.fm.1,hM.fr.1]
 ·intro d v hd
  simp only [dV,qa,List.getElem?_mapIdx,Option.map_eq_some_iff]at hd
  obtain⟨o,ho,hd⟩:=hd
  split at hd
  ·rename_i u' hu'
   obtain rfl:u'=v:=af hd
   obtain⟨u,g1,g2,_⟩:=hposV _ _ hu'
   rw [jB hI.good hI.fm g1,g2]
  rename_i hns
  split at hd
  ·cases hd
  rename_i hnw
  subst hd
  have hsk:y9 an ws d=false:=by
   unfold y9
   rw [oH hns]
   simpa using hnw
  have:=hI.fm.2 d v (hM.fr.2 d v hsk ho)
  rw [this,hold v (hw.fr v (List.mem_of_getElem? ho))]
 ·obtain⟨q1,q2⟩:=hM.stk
  obtain⟨q3,q4⟩:=nu.1 hI.lO
  show xc (ρ0++ah ρ α vals) α' (nw an s0.sh.length s0.hp.length s0.stk) T
  have hat:∀ (k:Nat) (f0:List (Option V)) (t:TF),s0.stk[k]?=some f0→T[k]?=some t→∃ f1,s.stk[k]?=some f1∧Fm ρ α f1 t.t∧f0.length=f1.length∧∀ (d:Nat) (v:V),r7 an k d=false→f0[d]?=some (some v)→f1[d]?=some (some v):=by
   intro k f0 t h1 h2
   have hk:k<s.stk.length:=by rw [← q1];exact(List.getElem?_eq_some_iff.1 h1).1
   have h3:=List.getElem?_eq_getElem hk
   exact⟨_,h3,q4 k _ t h3 h2,q2 k f0 _ h1 h3⟩
  refine nu.2 ?_
  unfold nw
  split
  ·rename_i hF
   refine⟨by simp [q1,q3],fun k f t hf ht=>?_⟩
   simp only [List.getElem?_mapIdx,Option.map_eq_some_iff]at hf
   obtain⟨f0,hf0,rfl⟩:=hf
   obtain⟨f1,h1,h2,h3,h4⟩:=hat k f0 t hf0 ht
   refine⟨by simp [h2.1,h3],fun d v hd=>?_⟩
   simp only [List.getElem?_mapIdx,Option.map_eq_some_iff]at hd
   obtain⟨o,ho,hd⟩:=hd
   split at hd
   ·rename_i u' hu'
    obtain rfl:u'=v:=af hd
    obtain⟨u,g1,g2,_⟩:=hposV _ _ hu'
    simp only [Pos.get,h1,Option.bind_some]at g1
    rw [g2]
    exact h2.2 d u (join_some g1)
   rename_i hns
   split at hd
   ·cases hd
   rename_i hng
   subst hd
   have hsk:r7 an k d=false:=by
    unfold r7
    rw [oH hns]
    simp only [Bool.false_or]
    simp at hng
    simp [hng]
   rw [h2.2 d v (h4 d v hsk ho),hold v (hw.stk f0 (List.mem_of_getElem? hf0) v (List.mem_of_getElem? ho))]
  rename_i hF
  refine⟨by rw [q1,q3],fun k f t hf ht=>?_⟩
  obtain⟨f1,h1,h2,h3,h4⟩:=hat k f t hf ht
  refine⟨by rw [h2.1,h3],fun d v hd=>?_⟩
  rw [h2.2 d v (h4 d v (by simp at hF;simp [r7,hF]) hd),hold v (hw.stk f (List.mem_of_getElem? hf) v (List.mem_of_getElem? hd))]
 ·-- the blocks
  have hnd:((aU ρ α 0 s.hp).map (·.id)).Nodup:=(List.nodup_append.1 hI.st.nodup).1
  rw [hos]
  refine jF (Md hI.st (fun e he=>?_) (ot fun n1 n2 b1 b2 e1 e2 hlt h1 h2 h3 h4=>?_)) (gq fun p hpm=>?_)
  ·obtain⟨n,b,h1,h2⟩:=iR he
   rw [Nat.zero_add]at h2
   rcases hall n b h1 with ⟨h3,_⟩|⟨n',b',h3,h4,_⟩
   ·rw [h3]at h2;cases h2
   exact dk h3 (by rw [Nat.zero_add,← h4.1];exact h2)
  ·rw [Nat.zero_add]at h2 h4
   have own_of:∀ {b:ak} {n:Nat} {e:Ch},b.ch (ρ0++ah ρ α vals) α' n=some e→b.own=true:=fun {b n e} h=>by
    unfold ak.ch at h
    unfold ak.own
    cases hk:b.k<;>simp [hk]at h ⊢
   rcases hall n1 b1 h1 with ⟨h5,_⟩|⟨m1,c1,h5,h6,h7⟩
   ·rw [h5]at h2;cases h2
   rcases hall n2 b2 h3 with ⟨h8,_⟩|⟨m2,c2,h8,h9,h10⟩
   ·rw [h8]at h4;cases h4
   rw [h6.1]at h2
   rw [h9.1]at h4
   refine vw hnd ?_ h5 h2 h8 h4
   rcases h7 with ⟨q1,rfl,q2⟩|⟨j1,q1,q2,q3,q4⟩
   ·rcases h10 with ⟨r1,rfl,r2⟩|⟨j2,r1,r2,r3,r4⟩
    ·omega
    rintro rfl
    obtain⟨n,t1,t2,_⟩:=hno' j2 r2 (r4 (own_of (h9.1.trans h4)))
    rw [r3]at t1
    obtain rfl:m1=n:=af t1
    rcases t2 with t2|t2
    ·omega
    exact q2 t2
   rcases h10 with ⟨r1,rfl,r2⟩|⟨j2,r1,r2,r3,r4⟩
   ·omega
   rintro rfl
   obtain⟨n,t1,_,t3⟩:=hno' j1 q2 (q4 (own_of (h6.1.trans h2)))
   rw [q3]at t1
   obtain rfl:m1=n:=af t1
   exact t3 j2 r2 ab (r4 (own_of (h9.1.trans h4))) r3
  obtain⟨n,b,h1,h2⟩:=cL.1 hpm
  rw [Nat.zero_add]at h2
  rcases hall n b h1 with ⟨_,_,h3,_⟩|⟨n',b',h3,h4,_⟩
  ·rw [ak.kR h3]at h2;cases h2
  exact cL.2 ⟨n',b',h3,by rw [Nat.zero_add,← h4.2.2];exact h2⟩
 ·intro n b hb
  refine⟨?_,?_⟩
  ·rcases happ _ n b hfl hb with ⟨hlt,h⟩|⟨j,rfl,h⟩
   ·simp only [oz,List.getElem?_mapIdx,Option.map_eq_some_iff]at h
    obtain⟨o,ho,b0,hb0,_⟩:=h
    subst hb0
    exact hlv n (hM.live n b0 ho)
   exact cX.2 ⟨b,by show(s0.ln++nG an s0.sh.length)[_]?=_;rw [hlen0,List.getElem?_append_right ab,Nat.add_sub_cancel_left];exact h⟩
  rcases hall n b hb with ⟨_,h3,_⟩|⟨n',b',h3,h4,_⟩
  ·exact h3
  exact h4.2.1 (hI.rows n' b' h3).2
 ·intro n b hb
  rcases happ _ n b (by rw [hlen0]) hb with ⟨hlt,h⟩|⟨j,rfl,h⟩
  ·have hb':=hM.ln n b h
   have h5:=hI.lens n b hb'
   have hw':=hw.ln b (List.mem_of_getElem? h)
   unfold ak.kw ak.xs at h5 ⊢
   rw [holdL b.c hw',hα0 n hlt]
   exact h5
  obtain⟨n',b',_,h2,h3,_⟩:=hnew j b h
  exact(h3.2.1 (hI.rows n' b' h2).2).len
 -- the shapes
 have:∀ (shs:List Sh) (xs:List Value),shs.length=xs.length→(∀ (j:Nat) (h:Sh) (x:Value),shs[j]?=some h→xs[j]?=some x→h.fit x=true)→Sh.dL shs xs=true:=by
  intro shs
  induction shs with
  | nil=>intro xs h _;cases xs<;>simp [Sh.dL]at h ⊢
  | cons h l ih =>
   intro xs hlx hf
   cases xs with
   | nil=>simp at hlx
   | cons x xs =>
    simp only [Sh.dL,Bool.and_eq_true]
    exact⟨hf 0 h x rfl rfl,ih xs (af hlx) fun j h' x' h1 h2=>hf (j+1) h' x' (af h1) (af h2)⟩
 refine this _ _ (by simp [hxl]) fun j h x h1 h2=>?_
 rw [List.getElem?_map,Option.map_eq_some_iff]at h1
 obtain⟨⟨p,hk⟩,hj,rfl⟩:=h1
 obtain⟨u,v,_,_,h3,h4,_⟩:=hpos j p hk hj
 have:=dC (ρ:=ρ) (α:=α) h3
 rw [h2]at this
 obtain rfl:x=v.den ρ α:=af this
 exact h4
end
end SX
namespace SX
def jM:List It→List TF→Option Nat
 | .code _::k,T=>jM k T
 | .inBlock _::k,T=>jM k T
 | .rounds _ _::k,T=>jM k T
 | .ops _ _::k,T=>jM k T
 | .again _ _ _ _::k,T=>jM k T
 | .beginR::k,T=>jM k T
 | .dT _ _ _ _::_,_::c::_=>c.lp.map (·.1)
 | _,_=>none
def LS.out:LS→Option Exit
 | .ret=>some .ret
 | .exit id=>some (.exit id)
 | _=>none
def s8:List TF→Option (Nat×Loop)
 | c::_=>c.lp
 | []=>none
def jk(P:Program)(R:Ending→World→Prop):List It→List TF→List (Act→World→Prop)→Exit→Act→World→Prop
 | [],_,_=>fun _ _ _=>False
 | .top fn::_,_,_=>dT P fn R
 | .code c::k,T,J=>Exit.then (jd (jM k T) P c (jk P R k T J)) (jk P R k T J)
 | .inBlock id::k,T,J=>Exit.inBlock id (jk P R k T J)
 | .rounds c m::k,T,J=>Exit.then (qk (jM k T) P c (jk P R k T J) m) (jk P R k T J)
 | .ops all rest::k,T,J=>Exit.then (dJ (jM k T) P all (jk P R k T J) rest) (jk P R k T J)
 | .back fn _ dst all rest::k,t::T,J=>dT P fn fun e w'=>∃ v,e=.returned v∧dJ (jM k T) P all (jk P R k T J) rest (({ tmps:=t.t,defers:=t.ds }:Act).put dst v) w'
 | .back _ _ _ _ _::_,[],_=>fun _ _ _=>False
 | .again _ _ _ _::k,T,j::J=>Exit.then j (jk P R k T J)
 | .again _ _ _ _::_,_,[]=>fun _ _ _=>False
 | .beginR::k,T,J=>Exit.then (fun a1 W1=>∃ l r,s8 T.tail=some (l,r)∧W1.heap[l]?=some (.loop r)∧jk P R k T J .normal a1 (W1.putObj l (.loop { r with state:=.busy }))) fun _ _ _=>False
 | .dT _ dst all rest::k,t::T,J=>fun e a1 W1=>∃ l r,s8 T=some (l,r)∧Hl l r (fun v W=>dJ (jM k T) P all (jk P R k T J) rest (({ tmps:=t.t,defers:=t.ds }:Act).put dst v) W) e a1 W1
 | .dT _ _ _ _::_,[],_=>fun _ _ _=>False
 | .endl fn _ _ _ _::k,c::T,J=>dT P fn fun e W=>∃ l r v st pe,c.lp=some (l,r)∧e=.returned v∧st≠.busy∧W.heap[l]?=some (.loop { r with state:=st,pending:=pe }) ∧
  FC P (jk P R k T J) (yj r.defers { tmps:=c.t,defers:=c.ds }) (W.putObj l (.loop { r with state:=.exhausted,pending:=pe })) pe
 | .endl _ _ _ _ _::_,[],_=>fun _ _ _=>False
 | .jump j::k,T,J=>fun _ a1 W1=>∃ e,j.out=some e∧jk P R k T J e a1 W1
def Rel(w0:fB)(ps:List (World→Prop))(T0:List TF)(L:List (Cx→List Value→Prop))(ρ:List Value):List It→List TF→List (Act→World→Prop)→Prop
 | [],_,_=>True
 | .back _ _ _ _ _::k,t::T,J=>t.lp=none∧Rel w0 ps T0 L ρ k T J
 | .back _ _ _ _ _::_,[],_=>False
 | .again l an ws s0::k,T,j::J=>(∃ (ρ0:List Value) (A:Cx→List Value→Prop) (ps0:List (World→Prop)),(∀ p∈ps0,p∈ps)∧L[l]?=some A∧ρ0<+:ρ∧Good ρ0 s0∧s0.Wf ρ0.length∧(∀ (n:Nat) (b:ak),s0.hp[n]?=some (some b)→lv s0.ln n=true)∧(∀ q∈s0.lps,lv s0.ln q.1=true)∧∀ (C:Cx) ps' xs a W,me C w0 ps'→(∀ p∈ps0,p∈ps')→A C xs→Sh.dL (an.pos.map fun e=>e.2.sh) xs=true→Inv w0 ps' T (ρ0++xs) (dV an ws s0) a W→j a W)∧Rel w0 ps T0 L ρ k T J
 | .again _ _ _ _::_,_,[]=>False
 | .top _::_,T,_=>T=T0
 | .code _::k,T,J=>Rel w0 ps T0 L ρ k T J
 | .inBlock _::k,T,J=>Rel w0 ps T0 L ρ k T J
 | .rounds _ _::k,T,J=>Rel w0 ps T0 L ρ k T J
 | .ops _ _::k,T,J=>Rel w0 ps T0 L ρ k T J
 | .beginR::k,T,J=>(∃ it T',T=it::T'∧it.lp=none∧(s8 T').isSome=true)∧Rel w0 ps T0 L ρ k T J
 | .jump _::k,T,J=>Rel w0 ps T0 L ρ k T J
 | .dT _ _ _ _::k,t::T,J=>t.lp=none∧(s8 T).isSome=true∧Rel w0 ps T0 L ρ k T J
 | .dT _ _ _ _::_,[],_=>False
 | .endl fn _ ps' assign body::k,c::T,J=>(∃ l r,c.lp=some (l,r)∧r.params=ps'∧r.assign=assign∧r.body=body)∧jM k T=none∧Rel w0 ps T0 L ρ k T J
 | .endl _ _ _ _ _::_,[],_=>False
section
variable {P:Program}{R:Ending→World→Prop}{w0:fB}{ps:List (World→Prop)}{T0:List TF}{L L':List (Cx→List Value→Prop)}{ρ ρ':List Value}
theorem Rel.mono(hρ:ρ<+:ρ')(hL:L<+:L'):∀ {k:List It}{T:List TF}{J:List (Act→World→Prop)},Rel w0 ps T0 L ρ k T J→Rel w0 ps T0 L' ρ' k T J
 | [],_,_,_=>trivial
 | .back _ _ _ _ _::k,_::T,J,h=>⟨h.1,Rel.mono hρ hL (k:=k) h.2⟩
 | .back _ _ _ _ _::_,[],_,h=>h
 | .again l an ws s0::k,T,j::J,⟨⟨ρ0,A,ps0,h0,h1,h2,h3⟩,h⟩=>⟨⟨ρ0,A,ps0,h0,by obtain⟨r,rfl⟩:=hL;rw [List.getElem?_append_left (List.getElem?_eq_some_iff.1 h1).1];exact h1,h2.trans hρ,h3⟩,Rel.mono hρ hL (k:=k) h⟩
 | .again _ _ _ _::_,_,[],h=>h
 | .top _::_,_,_,h=>h
 | .code _::k,T,J,h=>Rel.mono hρ hL (k:=k) h
 | .inBlock _::k,T,J,h=>Rel.mono hρ hL (k:=k) h
 | .rounds _ _::k,T,J,h=>Rel.mono hρ hL (k:=k) h
 | .ops _ _::k,T,J,h=>Rel.mono hρ hL (k:=k) h
 | .beginR::k,T,J,h=>⟨h.1,Rel.mono hρ hL (k:=k) h.2⟩
 | .jump _::k,T,J,h=>Rel.mono hρ hL (k:=k) h
 | .dT _ _ _ _::k,_::T,J,h=>⟨h.1,h.2.1,Rel.mono hρ hL (k:=k) h.2.2⟩
 | .dT _ _ _ _::_,[],_,h=>h
 | .endl _ _ _ _ _::k,_::T,J,h=>⟨h.1,h.2.1,Rel.mono hρ hL (k:=k) h.2.2⟩
 | .endl _ _ _ _ _::_,[],_,h=>h
theorem Rel.Cq{ps':List (World→Prop)}(hp:∀ p∈ps,p∈ps'):∀ {k:List It}{T:List TF}{J:List (Act→World→Prop)},Rel w0 ps T0 L ρ k T J→Rel w0 ps' T0 L ρ k T J
 | [],_,_,_=>trivial
 | .back _ _ _ _ _::k,_::T,J,h=>⟨h.1,Rel.Cq hp (k:=k) h.2⟩
 | .back _ _ _ _ _::_,[],_,h=>h
 | .again l an ws s0::k,T,j::J,⟨⟨ρ0,A,ps0,h0,h3⟩,h⟩=>⟨⟨ρ0,A,ps0,fun p hq=>hp p (h0 p hq),h3⟩,Rel.Cq hp (k:=k) h⟩
 | .again _ _ _ _::_,_,[],h=>h
 | .top _::_,_,_,h=>h
 | .code _::k,T,J,h=>Rel.Cq hp (k:=k) h
 | .inBlock _::k,T,J,h=>Rel.Cq hp (k:=k) h
 | .rounds _ _::k,T,J,h=>Rel.Cq hp (k:=k) h
 | .ops _ _::k,T,J,h=>Rel.Cq hp (k:=k) h
 | .beginR::k,T,J,h=>⟨h.1,Rel.Cq hp (k:=k) h.2⟩
 | .jump _::k,T,J,h=>Rel.Cq hp (k:=k) h
 | .dT _ _ _ _::k,_::T,J,h=>⟨h.1,h.2.1,Rel.Cq hp (k:=k) h.2.2⟩
 | .dT _ _ _ _::_,[],_,h=>h
 | .endl _ _ _ _ _::k,_::T,J,h=>⟨h.1,h.2.1,Rel.Cq hp (k:=k) h.2.2⟩
 | .endl _ _ _ _ _::_,[],_,h=>h
theorem jG{id:Nat}:∀ {k k':List It}{T:List TF}{J:List (Act→World→Prop)},bY id k=some k'→Rel w0 ps T0 L ρ k T J→∃ J',Rel w0 ps T0 L ρ k' T J'∧∀ a W,jk P R k' T J' .normal a W→jk P R k T J (.exit id) a W
 | [],_,_,_,h,_=>by simp [bY]at h
 | .back _ _ _ _ _::k,_,_,_,h,_=>by simp [bY]at h
 | .top _::k,_,_,_,h,_=>by simp [bY]at h
 | .ops _ _::k,_,_,_,h,_=>by simp [bY]at h
 | .beginR::k,_,_,_,h,_=>by simp [bY]at h
 | .dT _ _ _ _::k,_,_,_,h,_=>by simp [bY]at h
 | .endl _ _ _ _ _::k,_,_,_,h,_=>by simp [bY]at h
 | .jump _::k,_,_,_,h,_=>by simp [bY]at h
 | .again l an ws s0::k,k',T,[],h,hr=>hr.elim
 | .again l an ws s0::k,k',T,j::J,h,hr=>by
  obtain⟨J',h1,h2⟩:=jG (k:=k) (k':=k') (T:=T) (J:=J) (by simpa [bY]using h) hr.2
  exact⟨J',h1,fun a W hw=>h2 a W hw⟩
 | .code _::k,k',T,J,h,hr=>by
  obtain⟨J',h1,h2⟩:=jG (k:=k) (k':=k') (T:=T) (J:=J) (by simpa [bY]using h) hr
  exact⟨J',h1,fun a W hw=>h2 a W hw⟩
 | .rounds _ _::k,k',T,J,h,hr=>by
  obtain⟨J',h1,h2⟩:=jG (k:=k) (k':=k') (T:=T) (J:=J) (by simpa [bY]using h) hr
  exact⟨J',h1,fun a W hw=>h2 a W hw⟩
 | .inBlock id'::k,k',T,J,h,hr=>by
  unfold bY at h
  split at h
  ·rename_i hid
   subst hid
   obtain rfl:k=k':=af h
   exact⟨J,hr,fun a W hw=>by simp only [jk,Exit.inBlock,if_true];exact hw⟩
  rename_i hid
  obtain⟨J',h1,h2⟩:=jG (k:=k) (k':=k') (T:=T) (J:=J) h hr
  exact⟨J',h1,fun a W hw=>by simp only [jk,Exit.inBlock,if_neg hid];exact h2 a W hw⟩
theorem rP:∀ {k k':List It}{T:List TF}{J:List (Act→World→Prop)},fT k=some k'→Rel w0 ps T0 L ρ k T J→∃ J',Rel w0 ps T0 L ρ k' T J'∧∀ a W,jk P R k' T J' .normal a W→jk P R k T J .ret a W
 | [],_,_,_,h,_=>by simp [fT]at h
 | .back f c d a r::k,k',t::T,J,h,hr=>by
  obtain rfl:It.back f c d a r::k=k':=by simpa [fT]using h
  exact⟨J,hr,fun a W hw=>hw⟩
 | .back f c d a r::k,k',[],J,h,hr=>hr.elim
 | .endl f c d a r::k,k',t::T,J,h,hr=>by
  obtain rfl:It.endl f c d a r::k=k':=by simpa [fT]using h
  exact⟨J,hr,fun a W hw=>hw⟩
 | .endl f c d a r::k,k',[],J,h,hr=>hr.elim
 | .top f::k,k',T,J,h,hr=>by
  obtain rfl:It.top f::k=k':=by simpa [fT]using h
  exact⟨J,hr,fun a W hw=>hw⟩
 | .ops _ _::k,_,_,_,h,_=>by simp [fT]at h
 | .beginR::k,_,_,_,h,_=>by simp [fT]at h
 | .dT _ _ _ _::k,_,_,_,h,_=>by simp [fT]at h
 | .jump _::k,_,_,_,h,_=>by simp [fT]at h
 | .again l an ws s0::k,k',T,[],h,hr=>hr.elim
 | .again l an ws s0::k,k',T,j::J,h,hr=>by
  obtain⟨J',h1,h2⟩:=rP (k:=k) (k':=k') (T:=T) (J:=J) (by simpa [fT]using h) hr.2
  exact⟨J',h1,fun a W hw=>h2 a W hw⟩
 | .code _::k,k',T,J,h,hr=>by
  obtain⟨J',h1,h2⟩:=rP (k:=k) (k':=k') (T:=T) (J:=J) (by simpa [fT]using h) hr
  exact⟨J',h1,fun a W hw=>h2 a W hw⟩
 | .rounds _ _::k,k',T,J,h,hr=>by
  obtain⟨J',h1,h2⟩:=rP (k:=k) (k':=k') (T:=T) (J:=J) (by simpa [fT]using h) hr
  exact⟨J',h1,fun a W hw=>h2 a W hw⟩
 | .inBlock _::k,k',T,J,h,hr=>by
  obtain⟨J',h1,h2⟩:=rP (k:=k) (k':=k') (T:=T) (J:=J) (by simpa [fT]using h) hr
  exact⟨J',h1,fun a W hw=>h2 a W hw⟩
theorem jA:∀ {k k':List It}{T:List TF}{J:List (Act→World→Prop)},cj k=some k'→Rel w0 ps T0 L ρ k T J→∃ J',Rel w0 ps T0 L ρ k' T J'∧∀ a W,jk P R k' T J' .ret a W→jk P R k T J .ret a W
 | [],_,_,_,h,_=>by simp [cj]at h
 | .back _ _ _ _ _::k,_,_,_,h,_=>by simp [cj]at h
 | .top _::k,_,_,_,h,_=>by simp [cj]at h
 | .ops _ _::k,_,_,_,h,_=>by simp [cj]at h
 | .beginR::k,_,_,_,h,_=>by simp [cj]at h
 | .endl _ _ _ _ _::k,_,_,_,h,_=>by simp [cj]at h
 | .jump _::k,_,_,_,h,_=>by simp [cj]at h
 | .dT c d a r::k,k',T,J,h,hr=>by
  obtain rfl:It.dT c d a r::k=k':=by simpa [cj]using h
  exact⟨J,hr,fun a W hw=>hw⟩
 | .again l an ws s0::k,k',T,[],h,hr=>hr.elim
 | .again l an ws s0::k,k',T,j::J,h,hr=>by
  obtain⟨J',h1,h2⟩:=jA (k:=k) (k':=k') (T:=T) (J:=J) (by simpa [cj]using h) hr.2
  exact⟨J',h1,fun a W hw=>h2 a W hw⟩
 | .code _::k,k',T,J,h,hr=>by
  obtain⟨J',h1,h2⟩:=jA (k:=k) (k':=k') (T:=T) (J:=J) (by simpa [cj]using h) hr
  exact⟨J',h1,fun a W hw=>h2 a W hw⟩
 | .rounds _ _::k,k',T,J,h,hr=>by
  obtain⟨J',h1,h2⟩:=jA (k:=k) (k':=k') (T:=T) (J:=J) (by simpa [cj]using h) hr
  exact⟨J',h1,fun a W hw=>h2 a W hw⟩
 | .inBlock _::k,k',T,J,h,hr=>by
  obtain⟨J',h1,h2⟩:=jA (k:=k) (k':=k') (T:=T) (J:=J) (by simpa [cj]using h) hr
  exact⟨J',h1,fun a W hw=>h2 a W hw⟩
theorem iw{id:Nat}:∀ {k k':List It}{T:List TF}{J:List (Act→World→Prop)},cj k=some k'→bY id k=none→Rel w0 ps T0 L ρ k T J→∃ J',Rel w0 ps T0 L ρ k' T J'∧∀ a W,jk P R k' T J' (.exit id) a W→jk P R k T J (.exit id) a W
 | [],_,_,_,h,_,_=>by simp [cj]at h
 | .back _ _ _ _ _::k,_,_,_,h,_,_=>by simp [cj]at h
 | .top _::k,_,_,_,h,_,_=>by simp [cj]at h
 | .ops _ _::k,_,_,_,h,_,_=>by simp [cj]at h
 | .beginR::k,_,_,_,h,_,_=>by simp [cj]at h
 | .endl _ _ _ _ _::k,_,_,_,h,_,_=>by simp [cj]at h
 | .jump _::k,_,_,_,h,_,_=>by simp [cj]at h
 | .dT c d a r::k,k',T,J,h,_,hr=>by
  obtain rfl:It.dT c d a r::k=k':=by simpa [cj]using h
  exact⟨J,hr,fun a W hw=>hw⟩
 | .again l an ws s0::k,k',T,[],h,_,hr=>hr.elim
 | .again l an ws s0::k,k',T,j::J,h,hu,hr=>by
  obtain⟨J',h1,h2⟩:=iw (k:=k) (k':=k') (T:=T) (J:=J) (by simpa [cj]using h) (by simpa [bY]using hu) hr.2
  exact⟨J',h1,fun a W hw=>h2 a W hw⟩
 | .code _::k,k',T,J,h,hu,hr=>by
  obtain⟨J',h1,h2⟩:=iw (k:=k) (k':=k') (T:=T) (J:=J) (by simpa [cj]using h) (by simpa [bY]using hu) hr
  exact⟨J',h1,fun a W hw=>h2 a W hw⟩
 | .rounds _ _::k,k',T,J,h,hu,hr=>by
  obtain⟨J',h1,h2⟩:=iw (k:=k) (k':=k') (T:=T) (J:=J) (by simpa [cj]using h) (by simpa [bY]using hu) hr
  exact⟨J',h1,fun a W hw=>h2 a W hw⟩
 | .inBlock id'::k,k',T,J,h,hu,hr=>by
  unfold bY at hu
  split at hu
  ·cases hu
  rename_i hid
  obtain⟨J',h1,h2⟩:=iw (k:=k) (k':=k') (T:=T) (J:=J) (by simpa [cj]using h) hu hr
  exact⟨J',h1,fun a W hw=>by simp only [jk,Exit.inBlock,if_neg hid];exact h2 a W hw⟩
theorem nh:∀ {k:List It}{T:List TF}{J:List (Act→World→Prop)}{cur:FuncId}{ps':Array Tmp}{assign body:Code},dU k=some (cur,ps',assign,body)→Rel w0 ps T0 L ρ k T J→jM k T=none∧∃ c T' l r,T=c::T'∧c.lp=some (l,r)∧r.params=ps'∧r.assign=assign∧r.body=body
 | [],_,_,_,_,_,_,h,_=>by simp [dU]at h
 | .back _ _ _ _ _::k,_,_,_,_,_,_,h,_=>by simp [dU]at h
 | .top _::k,_,_,_,_,_,_,h,_=>by simp [dU]at h
 | .ops _ _::k,_,_,_,_,_,_,h,_=>by simp [dU]at h
 | .beginR::k,_,_,_,_,_,_,h,_=>by simp [dU]at h
 | .dT _ _ _ _::k,_,_,_,_,_,_,h,_=>by simp [dU]at h
 | .jump _::k,_,_,_,_,_,_,h,_=>by simp [dU]at h
 | .endl f c p x y::k,T,J,cur,ps',assign,body,h,hr=>by
  simp only [dU,Option.some.injEq,Prod.mk.injEq]at h
  obtain⟨rfl,rfl,rfl,rfl⟩:=h
  cases T with
  | nil=>exact hr.elim
  | cons t T =>
   obtain⟨⟨l,r,h1,h2,h3,h4⟩,_⟩:=hr
   exact⟨rfl,t,T,l,r,rfl,h1,h2,h3,h4⟩
 | .again l an ws s0::k,T,[],_,_,_,_,h,hr=>hr.elim
 | .again l an ws s0::k,T,j::J,_,_,_,_,h,hr=>nh (k:=k) (T:=T) (J:=J) (by simpa [dU]using h) hr.2
 | .code _::k,T,J,_,_,_,_,h,hr=>nh (k:=k) (T:=T) (J:=J) (by simpa [dU]using h) hr
 | .rounds _ _::k,T,J,_,_,_,_,h,hr=>nh (k:=k) (T:=T) (J:=J) (by simpa [dU]using h) hr
 | .inBlock _::k,T,J,_,_,_,_,h,hr=>nh (k:=k) (T:=T) (J:=J) (by simpa [dU]using h) hr
theorem jD:∀ {k:List It}{T:List TF},fM k=true→jM k T=none
 | [],_,h=>by simp [fM]at h
 | .back _ _ _ _ _::k,_,_=>rfl
 | .top _::k,_,_=>rfl
 | .ops _ _::k,_,h=>by simp [fM]at h
 | .beginR::k,_,h=>by simp [fM]at h
 | .endl _ _ _ _ _::k,_,_=>rfl
 | .jump _::k,_,_=>rfl
 | .dT _ _ _ _::k,_,h=>by simp [fM]at h
 | .again _ _ _ _::k,T,h=>by simp only [jM];exact jD (by simpa [fM]using h)
 | .code _::k,T,h=>by simp only [jM];exact jD (by simpa [fM]using h)
 | .rounds _ _::k,T,h=>by simp only [jM];exact jD (by simpa [fM]using h)
 | .inBlock _::k,T,h=>by simp only [jM];exact jD (by simpa [fM]using h)
end
section
variable {C:Cx}{w0:fB}{ps:List (World→Prop)}{T:List TF}{ρ:List Value}{s:S}{a:Act}{W:World}{α:Nat→AV}
def En(tmps:Array Value):ResultVar→Sem Value
 | .tmp t=>pure (tmps.getD t undef)
 | .cell a t=>do loadVar t (← asAddr (tmps.getD a undef))
theorem AY(fn:Func)(tmps:Array Value):results fn tmps=(do
 let vs ← fn.results.mapM (En tmps)
 pure (if h:vs.size=1 then vs[0]else .tuple vs)):=rfl
theorem JT(hI:aF w0 ps T ρ s a W α){r:ResultVar}{v:V}(h:wv C.P s r=some v):(En a.tmps r).run C.P W=.ok (v.den ρ α) W:=by
 cases r with
 | tmp t =>
  have:=jB hI.good hI.fm (d:=t) h
  simp [En,Array.getD_eq_getD_getElem?,this]
 | cell p t =>
  unfold wv at h
  dsimp only at h
  split at h
  ·rename_i n o hp
   have hp':=jB hI.good hI.fm hp
   have hb':∀ b,((s.hp[n]?).join).bind jT=some b→s.hp[n]?=some (some b)∧b.k=.cells:=fun b hb=>by
    obtain⟨b0,hb2,hb0⟩:=Option.bind_eq_some_iff.1 hb
    obtain⟨e,hk⟩:=Dh hb0
    subst e
    refine⟨?_,hk⟩
    cases hq:s.hp[n]? with
    | none=>simp [hq]at hb2
    | some u=>simp [hq]at hb2;rw [hb2]
   split at h
   ·rename_i b sz hb hr hs
    split at h
    ·rename_i hlt
     obtain rfl:=af h
     have hm:=hI.st.at_ (hI.dS (hb' b hb).1 (hb' b hb).2)
     have:=kb (P:=C.P) (off:=o) (n:=sz) hm hr hs (by simpa [aq]using hlt)
     simp only [En,Array.getD_eq_getD_getElem?,hp',Option.getD_some,V.den,asAddr,Sem.run_bind,Sem.run_pure,Result.andThen_ok,this]
     rw [vF,cz]
    cases h
   ·rename_i b hb hr
    have hm:=hI.st.at_ (hI.dS (hb' b hb).1 (hb' b hb).2)
    have:=nO (P:=C.P) (off:=o) (v:=v.den ρ α) hm hr (by simpa using dC (ρ:=ρ) (α:=α) h)
    simp only [En,Array.getD_eq_getD_getElem?,hp',Option.getD_some,V.den,asAddr,Sem.run_bind,Sem.run_pure,Result.andThen_ok,this]
   cases h
  cases h
end
section
variable {C:Cx}{w0:fB}{ps:List (World→Prop)}{T T0:List TF}{ρ:List Value}{s:S}{a:Act}{W:World}{α:Nat→AV}{R:Ending→World→Prop}{L:List (Cx→List Value→Prop)}
theorem aF.LX(hI:aF w0 ps T ρ s a W α){p:Pos}{u v:V}(hg:p.get s=some u)(hd:v.den ρ α=u.den ρ α)(hw:v.wf s.ln ρ.length=true):aF w0 ps T ρ (p.put s v) a W α:=by
 cases p with
 | s d =>
  have hl:=jB hI.good hI.fm hg
  refine⟨hI.defers,⟨hI.good.len,hI.good.fit,hI.good.kn⟩,⟨fun x hx=>?_,hI.wf.stk,hI.wf.hp,hI.wf.ln⟩,⟨by simp [Pos.put,hI.fm.1],fun d' x hx=>?_⟩,hI.lO,hI.st,hI.rows,hI.lens⟩
  ·rcases mem_set hx with h|h
   ·obtain rfl:x=v:=af h
    exact hw
   exact hI.wf.fr x h
  simp only [Pos.put,List.getElem?_set]at hx
  split at hx
  ·rename_i e
   subst e
   split at hx
   ·obtain rfl:v=x:=af hx
    rw [hl,hd]
   cases hx
  exact hI.fm.2 d' x hx
 | g k ds=>exact hI
 | f k d =>
  simp only [Pos.get]at hg
  have hg:=join_some hg
  obtain⟨f0,hf0,hd0⟩:=Option.bind_eq_some_iff.1 hg
  obtain⟨q3,q4⟩:=nu.1 hI.lO
  refine⟨hI.defers,⟨hI.good.len,hI.good.fit,hI.good.kn⟩,⟨hI.wf.fr,fun f hf=>?_,hI.wf.hp,hI.wf.ln⟩,hI.fm,nu.2 ⟨by simp [Pos.put,q3],fun j f t hf ht=>?_⟩,hI.st,hI.rows,hI.lens⟩
  ·obtain⟨j,hj⟩:=List.mem_iff_getElem?.1 hf
   simp only [Pos.put,List.getElem?_mapIdx,Option.map_eq_some_iff]at hj
   obtain⟨f1,hf1,rfl⟩:=hj
   split
   ·intro x hx
    rcases mem_set hx with h|h
    ·obtain rfl:x=v:=af h
     exact hw
    exact hI.wf.stk f1 (List.mem_of_getElem? hf1) x h
   exact hI.wf.stk f1 (List.mem_of_getElem? hf1)
  simp only [Pos.put,List.getElem?_mapIdx,Option.map_eq_some_iff]at hf
  obtain⟨f1,hf1,rfl⟩:=hf
  have h2:=q4 j f1 t hf1 ht
  split
  ·rename_i e
   subst e
   rw [hf0]at hf1
   cases hf1
   refine⟨by simp [h2.1],fun d' x hx=>?_⟩
   simp only [List.getElem?_set]at hx
   split at hx
   ·rename_i e
    subst e
    split at hx
    ·obtain rfl:v=x:=af hx
     rw [hd]
     exact h2.2 d u hd0
    cases hx
   exact h2.2 d' x hx
  exact h2
 | c n k =>
  simp only [Pos.get]at hg
  obtain⟨b,hb,hk⟩:=Option.bind_eq_some_iff.1 hg
  obtain⟨b0,hb0,hb1⟩:=Option.bind_eq_some_iff.1 hb
  obtain⟨rfl,hbk⟩:=FQ hb1
  have hn:=join_some hb0
  have hput:(Pos.c n k).put s v={ s with hp:=s.hp.set n (some ⟨b0.c.set k v,b0.t,b0.k⟩) }:=by simp only [Pos.put,hb]
  rw [hput]
  have hden:ah ρ α (b0.c.set k v)=ah ρ α b0.c:=by
   apply List.ext_getElem?
   intro i
   rw [aE,aE,List.getElem?_map,List.getElem?_map,List.getElem?_set]
   split
   ·rename_i e
    subst e
    split
    ·rw [hk];simp [hd]
    rename_i hlt
    rw [List.getElem?_eq_none ab]
   rfl
  have hch:∀ m,(⟨b0.c.set k v,b0.t,b0.k⟩:ak).ch ρ α m=b0.ch ρ α m:=fun m=>by rcases hbk with hbk|⟨k9,ag9,hbk⟩<;>simp only [ak.ch,ak.xs,hbk,hden]
  have hc:aU ρ α 0 (s.hp.set n (some ⟨b0.c.set k v,b0.t,b0.k⟩))=aU ρ α 0 s.hp:=by
   obtain⟨l1,l2,q1,q2⟩:=cy (ρ:=ρ) (α:=α) (k:=0) hn
   rw [q2,q1]
   simp only [Option.bind_some,hch]
  refine⟨hI.defers,⟨hI.good.len,hI.good.fit,hI.good.kn⟩,⟨hI.wf.fr,hI.wf.stk,fun d hd'=>?_,hI.wf.ln⟩,hI.fm,hI.lO,?_,fun m c hm=>?_,hI.lens⟩
  ·rcases mem_set hd' with h|h
   ·obtain rfl:d=⟨b0.c.set k v,b0.t,b0.k⟩:=af h
    refine ki fun x hx=>?_
    rcases List.mem_or_eq_of_mem_set hx with h|h
    ·exact dF (hI.wf.hp b0 (List.mem_of_getElem? hn)) x h
    subst h;exact hw
   exact hI.wf.hp d h
  ·show St w0 (aU ρ α 0 (s.hp.set n (some ⟨b0.c.set k v,b0.t,b0.k⟩))) (dP a s T) _ W
   rw [hc]
   refine jF hI.st (gq (iW fun m c hm=>?_))
   rcases bD hm with ⟨rfl,rfl⟩|⟨_,h⟩
   ·exact .inl (by rcases hbk with hbk|⟨k9,ag9,hbk⟩<;>simp [ak.own,hbk])
   exact .inr ⟨c,h,rfl⟩
  rcases bD hm with ⟨rfl,rfl⟩|⟨_,h⟩
  ·exact⟨hI.live _ _ hn,by rcases hbk with hbk|⟨k9,ag9,hbk⟩<;>simp [ak.bB,hbk]⟩
  exact hI.rows m c h
theorem qR{p:Pos}{u:V}{sh:List Sh}{b:ak}(hg:p.get s=some u):p.get ({ (s.room 1)with sh:=sh }.make s.hp.length b)=some u:=by
 cases p with
 | s d=>exact hg
 | f k d=>exact hg
 | g k ds=>exact hg
 | c n k =>
  simp only [Pos.get]at hg ⊢
  obtain⟨b1,hb,hk⟩:=Option.bind_eq_some_iff.1 hg
  obtain⟨b0,hb0,hb1⟩:=Option.bind_eq_some_iff.1 hb
  have hn:=join_some hb0
  have hlt:=(List.getElem?_eq_some_iff.1 hn).1
  have:({ (s.room 1)with sh:=sh }.make s.hp.length b).hp[n]?=some (some b0):=by
   simp only [S.make,S.room]
   rw [List.getElem?_set_ne ab,List.getElem?_append_left hlt]
   exact hn
  rw [this]
  simp only [Option.join_some,Option.bind_some,hb1,hk]
theorem eM{s:S}{n:Nat}(h:dg s n=true):bh s n:=by
 unfold dg at h
 split at h
 ·exact⟨by assumption,by assumption⟩
 cases h
theorem qf{s:S}{n:Nat}{b:ak}(h:bh s n):lv (s.ln.set n (some b)) n=true:=by
 refine cX.2 ⟨b,?_⟩
 rw [List.getElem?_set,if_pos rfl,if_pos (List.getElem?_eq_some_iff.1 h.2).1]
theorem eo(hps:me C w0 ps){Gl:Prop}:∀ (l:List (Pos×HK))(s:S)(ρ:List Value)(k:S→Tree),VC C w0 ps T0 R L ρ (settle s l k)→Inv w0 ps T ρ s a W→(∀ s' ρ',VC C w0 ps T0 R L ρ' (k s')→ρ<+:ρ'→Inv w0 ps T ρ' s' a W→Gl)→Gl
 | [],s,ρ,k,hv,hI,h=>h s ρ hv (List.prefix_refl _) hI
 | (p,.one)::l,s,ρ,k,hv,hI,h=>eo hps l s ρ k (by simpa only [settle]using hv) hI h
 | (p,.ag n)::l,s,ρ,k,hv,hI,h=>eo hps l s ρ k (by simpa only [settle]using hv) hI h
 | (p,.any)::l,s,ρ,k,hv,hI,h=>eo hps l s ρ k (by simpa only [settle]using hv) hI h
 | (p,.row sz e)::l,s,ρ,k,hv,hI,h=>by
  simp only [settle]at hv
  split at hv
  ·rename_i hg
   split at hv
   ·rename_i hc
    simp only [Bool.and_eq_true,decide_eq_true_eq]at hc
    obtain⟨α,hA⟩:=hI
    obtain⟨α',h1,h2,h3⟩:=(hA.room 1).GL (b:=⟨[],e,.row sz⟩) (eM hc.2) rfl (W':=W) ⟨0,.slice none 0 0,[]⟩ fun α' q1 q2 q3 q4=>by
     refine⟨?_,hc.1,.inl ⟨rfl,by rw [q1]⟩⟩
     rw [gA (k:=0) (eM hc.2).1 (by simp only [ak.ch,Nat.zero_add,q1]),q4]
     exact(hA.room 1).st
    have h4:=h3.LX (p:=p) (u:=.k (.slice none 0 0)) (v:=.row s.hp.length) (qR (s:=s) (sh:=s.sh) hg) (by simp only [V.den,h1]) (by
     show lv ((s.room 1).ln.set s.hp.length _) s.hp.length=true
     exact qf (eM hc.2))
    exact eo hps l _ ρ k hv ⟨α',h4⟩ h
   simp [VC]at hv
  exact eo hps l s ρ k hv hI h
 | (p,.ext sz)::l,s,ρ,k,hv,hI,h=>by
  simp only [settle]at hv
  split at hv
  ·rename_i i q hg
   split at hv
   ·rename_i hc
    simp only [Bool.and_eq_true,decide_eq_true_eq]at hc
    obtain⟨⟨h0,hi⟩,hfr⟩:=hc
    simp only [VC]at hv
    obtain⟨v,hrel,hfit,hv⟩:=hv.resolve_right fun⟨_,_,hq,_⟩=>False.elim (hq fun _=>default)
    obtain⟨α,hA⟩:=hI
    obtain⟨cells,⟨A,n,c,hx,hnc⟩,hK,hAl,rfl⟩:=hrel α
    have hA1:=(hA.room 1).ext (h:=.any) (v:=.agg cells.toArray) rfl
    have hKf:∀ W2,bp (bk (aU (ρ++[.agg cells.toArray]) α 0 (s.room 1).hp) (dP a s T)) W W2→Kf C W2:=fun W2 h2=>hA1.st.pers _ (List.mem_append.2 (.inr hps.1)) W2 h2
    have hsl:(ρ++[Value.agg cells.toArray]).getD s.sh.length undef=Value.agg cells.toArray:=by rw [hA.good.len];simp
    have hxs:(⟨[.x s.sh.length []],0,.ext sz⟩:ak).xs (ρ++[.agg cells.toArray]) α=cells:=by
     simp only [ak.xs,ah,V.den,List.foldl_nil,hsl,List.flatMap_cons,List.flatMap_nil,ae,List.append_nil]
    have hrd:∀ W2,C.K (.slice A n c) sz cells→Kf C W2→Arg.rd W2 ⟨.slice A n c,sz,cells⟩:=fun W2 h1 h2=>h2 _ _ _ h1
    rw [hx]at hK hAl
    have hR:=hrd W hK (hA.fact hps.1)
    have hR':Rd W sz A n cells:=hR.1
    obtain⟨α',h1,h2,h3⟩:=hA1.LK (b:=⟨[.x s.sh.length []],0,.ext sz⟩) (eM hfr) rfl (by
     simp only [dw,V.wf,Bool.and_true,decide_eq_true_eq,List.length_append,List.length_cons,List.length_nil]
     rw [hA.good.len];omega) (W':=W) ⟨0,.slice A n c,[]⟩ hA1.st h0 ⟨A,n,c,rfl,by rw [hxs];exact hR'.1,hnc,fun hn=>by
      obtain⟨ad,e,_⟩:=hR'.2 hn
      rw [e];rfl⟩ fun W2 h2=>by
      rw [hxs]
      exact⟨hrd W2 hK (hKf W2 h2),.inr ⟨fun W3 h3=>hps.2.1 W3 h3 _ _ _ hAl,fun B hB=>hps.2.2.1 B hB _ _ _ hAl⟩⟩
    have hwfx:(V.x i q).wf s.ln ρ.length=true:=by
     simp only [V.wf,decide_eq_true_eq];rw [← hA.good.len];exact hi
    have h4:=h3.LX (p:=p) (u:=.x i q) (v:=.row s.hp.length) (qR (s:=s) (sh:=s.sh++[.any]) hg) (by
     simp only [V.den,h1]
     rw [← hx]
     have:=iU (ρ0:=ρ) (ρ:=ρ++[.agg cells.toArray]) (α:=α) ⟨_,rfl⟩ hwfx
     simp only [V.den]at this
     exact this.symm) (by
     show lv ((s.room 1).ln.set s.hp.length _) s.hp.length=true
     exact qf (eM hfr))
    exact eo hps l _ _ k hv ⟨α',h4⟩ fun s' ρ' g1 g2 g3=>h s' ρ' g1 (List.IsPrefix.trans ⟨_,rfl⟩ g2) g3
   simp [VC]at hv
  ·rename_i c hg
   split at hv
   ·rename_i hc
    simp only [Bool.and_eq_true,decide_eq_true_eq]at hc
    obtain⟨α,hA⟩:=hI
    have hrd:∀ W3,Arg.rd W3 ⟨.slice none 0 c,sz,[]⟩:=fun W3=>nK
    obtain⟨α',h1,h2,h3⟩:=(hA.room 1).LK (b:=⟨[],0,.ext sz⟩) (eM hc.2) rfl rfl (W':=W) ⟨0,.slice none 0 c,[]⟩ (hA.room 1).st hc.1 ⟨none,0,c,rfl,by simp [ak.xs,ah],Nat.zero_le _,fun h=>absurd h ab⟩ fun W2 h2=>⟨hrd W2,.inr ⟨fun W3 _=>hrd W3,fun B _ ad n c e _=>by cases e⟩⟩
    have h4:=h3.LX (p:=p) (u:=.k (.slice none 0 c)) (v:=.row s.hp.length) (qR (s:=s) (sh:=s.sh) hg) (by simp only [V.den,h1]) (by
     show lv ((s.room 1).ln.set s.hp.length _) s.hp.length=true
     exact qf (eM hc.2))
    exact eo hps l _ ρ k hv ⟨α',h4⟩ h
   simp [VC]at hv
  exact eo hps l s ρ k hv hI h
end
end SX
namespace SX
def bu(base:Nat)(c:Nat→Bool):Nat→List (Oper×cn)→S→S
 | _,[],s=>s
 | i,(o,d)::l,s=>bu base c (i+1) l (if c i then s.dl (base+i) o.dst d.v d.new d.wr else s)
structure eI(slots names snames:List Nat)(s s':S):Prop where
 fr:∀ x∈slots,s.fr[x]?=s'.fr[x]?
 hp:∀ n∈names,s.hp[n]?=s'.hp[n]?
 ln:∀ n∈snames,s.ln[n]?=s'.ln[n]?
structure fa(s s':S):Prop where
 sh:s.sh=s'.sh
 kn:s.kn=s'.kn
 stk:s.stk=s'.stk
 cur:s.cur=s'.cur
 frl:s.fr.length=s'.fr.length
 hpl:s.hp.length=s'.hp.length
 lnl:s.ln.length=s'.ln.length
 lps:s.lps=s'.lps
theorem fa.refl(s:S):fa s s:=⟨rfl,rfl,rfl,rfl,rfl,rfl,rfl,rfl⟩
theorem fa.trans{a b c:S}(h:fa a b)(h':fa b c):fa a c:=⟨h.1.trans h'.1,h.2.trans h'.2,h.3.trans h'.3,h.4.trans h'.4,h.5.trans h'.5,h.6.trans h'.6,h.7.trans h'.7,h.8.trans h'.8⟩
theorem fa.symm{a b:S}(h:fa a b):fa b a:=⟨h.1.symm,h.2.symm,h.3.symm,h.4.symm,h.5.symm,h.6.symm,h.7.symm,h.8.symm⟩
theorem Ej(s:S)(d:Option Tmp)(v:V):fa (s.put d v) s:=by
 cases d<;>exact⟨rfl,rfl,rfl,rfl,by simp [S.put],rfl,rfl,rfl⟩
theorem ua(s:S)(n:Nat)(b:ak):fa (s.lay n b) s:=⟨rfl,rfl,rfl,rfl,rfl,by simp [S.lay],rfl,rfl⟩
theorem ra(s:S)(n:Nat)(b:ak):fa (s.make n b) s:=⟨rfl,rfl,rfl,rfl,rfl,by simp [S.make],by simp [S.make],rfl⟩
theorem eL(s:S)(nm:Nat)(d:Option Tmp)(v:V)(new:Option ak)(wr:Option (Nat×ak)):fa (s.dl nm d v new wr) s:=by
 unfold S.dl
 refine(Ej _ _ _).trans ?_
 cases wr<;>cases new<;>dsimp only
 ·exact .refl _
 ·exact ra _ _ _
 ·exact ua _ _ _
 exact(ua _ _ _).trans (ra _ _ _)
theorem bw(base:Nat)(c:Nat→Bool):∀ (l:List (Oper×cn))(i:Nat)(s:S),fa (bu base c i l s) s
 | [],_,s=>.refl s
 | (o,d)::l,i,s=>by
  unfold bu
  refine(bw base c l (i+1) _).trans ?_
  split
  ·exact eL ..
  exact .refl s
theorem Ae(s:S)(nm:Nat)(d:Option Tmp)(v:V)(new:Option ak)(wr:Option (Nat×ak)):(s.dl nm d v new wr).fr=(s.put d v).fr:=by
 unfold S.dl
 cases wr<;>cases new<;>cases d<;>rfl
def pR(hp:List (Option ak)):Option (Nat×ak)→List (Option ak)
 | some (n,b)=>hp.set n (some b)
 | none=>hp
theorem Ag(s:S)(nm:Nat)(d:Option Tmp)(v:V)(new:Option ak)(wr:Option (Nat×ak)):(s.dl nm d v new wr).hp=pR (pR s.hp (new.map fun b=>(nm,b))) wr:=by
 unfold S.dl
 cases wr<;>cases new<;>cases d<;>rfl
theorem Ah(s:S)(nm:Nat)(d:Option Tmp)(v:V)(new:Option ak)(wr:Option (Nat×ak)):(s.dl nm d v new wr).ln=pR s.ln (new.map fun b=>(nm,b)):=by
 unfold S.dl
 cases wr<;>cases new<;>cases d<;>rfl
theorem mG{hp:List (Option ak)}{e:Option (Nat×ak)}{n:Nat}(h:n∉(match e with|some (m,_)=>[m]|none=>[])):(pR hp e)[n]?=hp[n]?:=by
 cases e with
 | none=>rfl
 | some e =>
  simp only [List.mem_singleton]at h
  simp [pR,List.getElem?_set_ne (fun e=>h e.symm)]
theorem yb(hp:List (Option ak))(e:Option (Nat×ak)):(pR hp e).length=hp.length:=by cases e<;>simp [pR]
theorem qc{hp hp':List (Option ak)}(hl:hp.length=hp'.length){e:Option (Nat×ak)}{n:Nat}(h:hp[n]?=hp'[n]?∨n∈(match e with|some (m,_)=>[m]|none=>[])):(pR hp e)[n]?=(pR hp' e)[n]?:=by
 cases e with
 | none=>simpa [pR]using h
 | some e =>
  obtain⟨m,b⟩:=e
  simp only [List.mem_singleton]at h
  by_cases hm:m=n
  ·subst hm;simp [pR,List.getElem?_set,hl]
  simp only [pR]
  rw [List.getElem?_set_ne hm,List.getElem?_set_ne hm]
  exact h.resolve_right fun e=>hm e.symm
theorem u0(nm:Nat)(d:cn):gM nm d=(match d.new.map (fun b=>(nm,b))with|some (m,_)=>[m]|none=>[])++(match d.wr with|some (n,_)=>[n]|none=>[]):=by
 unfold gM
 cases d.new<;>rfl
theorem nd{s:S}{nm:Nat}{d:Option Tmp}{v:V}{new:Option ak}{wr:Option (Nat×ak)}{x:Nat}(h:x∉d.toList):(s.dl nm d v new wr).fr[x]?=s.fr[x]?:=by
 rw [Ae]
 cases d with
 | none=>rfl
 | some y =>
  simp only [Option.toList_some,List.mem_singleton]at h
  simp [S.put,List.getElem?_set_ne (fun e=>h e.symm)]
theorem ug(nm:Nat)(d:cn):gi nm d=(match d.new.map (fun b=>(nm,b))with|some (m,_)=>[m]|none=>[]):=by
 unfold gi
 cases d.new<;>rfl
theorem mJ{nm n:Nat}{d:cn}(h:n∈gi nm d):n=nm:=by
 unfold gi at h
 split at h<;>simp at h
 exact h
theorem ng{s:S}{nm:Nat}{o:Option Tmp}{d:cn}{n:Nat}(h:n∉gi nm d):(s.dl nm o d.v d.new d.wr).ln[n]?=s.ln[n]?:=by
 rw [ug]at h
 rw [Ah,mG h]
theorem tO{s s':S}(hl:s.ln.length=s'.ln.length){nm:Nat}{o:Option Tmp}{d:cn}{n:Nat}(hold:s.ln[n]?=s'.ln[n]?∨n∈gi nm d):(s.dl nm o d.v d.new d.wr).ln[n]?=(s'.dl nm o d.v d.new d.wr).ln[n]?:=by
 rw [ug]at hold
 rw [Ah,Ah]
 exact qc hl hold
theorem nf{s:S}{nm:Nat}{o:Option Tmp}{d:cn}{n:Nat}(h:n∉gM nm d):(s.dl nm o d.v d.new d.wr).hp[n]?=s.hp[n]?:=by
 rw [u0,List.mem_append,not_or]at h
 rw [Ag,mG h.2,mG h.1]
theorem tM{s s':S}(hl:s.fr.length=s'.fr.length){nm:Nat}{d:Option Tmp}{v:V}{new:Option ak}{wr:Option (Nat×ak)}{x:Nat}(h:x∈d.toList):(s.dl nm d v new wr).fr[x]?=(s'.dl nm d v new wr).fr[x]?:=by
 rw [Ae,Ae]
 cases d with
 | none=>simp at h
 | some y =>
  simp only [Option.toList_some,List.mem_singleton]at h
  subst h
  simp [S.put,List.getElem?_set,hl]
theorem tN{s s':S}(hl:s.hp.length=s'.hp.length){nm:Nat}{o:Option Tmp}{d:cn}{n:Nat}(hold:s.hp[n]?=s'.hp[n]?∨n∈gM nm d):(s.dl nm o d.v d.new d.wr).hp[n]?=(s'.dl nm o d.v d.new d.wr).hp[n]?:=by
 rw [Ag,Ag]
 rw [u0,List.mem_append]at hold
 refine qc (by rw [yb,yb,hl]) ?_
 rcases hold with h|h|h
 ·exact .inl (qc hl (.inl h))
 ·exact .inl (qc hl (.inr h))
 exact .inr h
theorem jP{base:Nat}{c c':Nat→Bool}{x:Nat}:∀ (l:List (Oper×cn))(i:Nat)(s s':S),s.fr.length=s'.fr.length→s.fr[x]?=s'.fr[x]?→(∀ (j:Nat)(o:Oper)(d:cn),l[j]?=some (o,d)→x∈o.dst.toList→c (i+j)=c' (i+j)) →
 (bu base c i l s).fr[x]?=(bu base c' i l s').fr[x]?
 | [],_,_,_,_,h,_=>h
 | (o,d)::l,i,s,s',hl,h,hc=>by
  unfold bu
  refine jP l (i+1) _ _ ?_ ?_ fun j o' d' hj hx=>by
   have:=hc (j+1) o' d' (af hj) hx
   rwa [show i+(j+1)=i+1+j by omega]at this
  ·split<;>split<;>simp [(eL ..).frl,hl]
  by_cases hx:x∈o.dst.toList
  ·have:=hc 0 o d rfl hx
   rw [Nat.add_zero]at this
   rw [this]
   split
   ·exact tM hl hx
   exact h
  split<;>split<;>(try simp only [nd hx])<;>exact h
theorem jQ{base:Nat}{c c':Nat→Bool}{n:Nat}:∀ (l:List (Oper×cn))(i:Nat)(s s':S),s.hp.length=s'.hp.length→s.hp[n]?=s'.hp[n]?→(∀ (j:Nat)(o:Oper)(d:cn),l[j]?=some (o,d)→n∈gM (base+(i+j)) d→c (i+j)=c' (i+j)) →
 (bu base c i l s).hp[n]?=(bu base c' i l s').hp[n]?
 | [],_,_,_,_,h,_=>h
 | (o,d)::l,i,s,s',hl,h,hc=>by
  unfold bu
  refine jQ l (i+1) _ _ ?_ ?_ fun j o' d' hj=>by
   have:=hc (j+1) o' d' (af hj)
   rwa [show i+(j+1)=i+1+j by omega]at this
  ·split<;>split<;>simp [(eL ..).hpl,hl]
  have hx1:=hc 0 o d rfl
  rw [Nat.add_zero]at hx1
  by_cases hx:n∈gM (base+i) d
  ·rw [hx1 hx]
   split
   ·exact tN hl (.inr hx)
   exact h
  split<;>split<;>(try simp only [nf hx])<;>exact h
theorem jR{base:Nat}{c c':Nat→Bool}{n:Nat}:∀ (l:List (Oper×cn))(i:Nat)(s s':S),s.ln.length=s'.ln.length→s.ln[n]?=s'.ln[n]?→(∀ (j:Nat)(o:Oper)(d:cn),l[j]?=some (o,d)→n∈gi (base+(i+j)) d→c (i+j)=c' (i+j)) →
 (bu base c i l s).ln[n]?=(bu base c' i l s').ln[n]?
 | [],_,_,_,_,h,_=>h
 | (o,d)::l,i,s,s',hl,h,hc=>by
  unfold bu
  refine jR l (i+1) _ _ ?_ ?_ fun j o' d' hj=>by
   have:=hc (j+1) o' d' (af hj)
   rwa [show i+(j+1)=i+1+j by omega]at this
  ·split<;>split<;>simp [(eL ..).lnl,hl]
  have hx1:=hc 0 o d rfl
  rw [Nat.add_zero]at hx1
  by_cases hx:n∈gi (base+i) d
  ·rw [hx1 hx]
   split
   ·exact tO hl (.inr hx)
   exact h
  split<;>split<;>(try simp only [ng hx])<;>exact h
theorem S.ext'{s s':S}(h:fa s s')(hf:∀ x:Nat,s.fr[x]?=s'.fr[x]?)(hh:∀ n:Nat,s.hp[n]?=s'.hp[n]?)(hn:∀ n:Nat,s.ln[n]?=s'.ln[n]?):s=s':=by
 cases s;cases s'
 obtain⟨h1,h2,h3,h4,h5,h6,h7,h8⟩:=h
 have e1:=List.ext_getElem? hf
 have e2:=List.ext_getElem? hh
 have e3:=List.ext_getElem? hn
 simp only at *
 subst h1;subst h2;subst h3;subst h4;subst h8;subst e1;subst e2;subst e3
 rfl
theorem ij(base:Nat):∀ (l:List (Oper×cn))(i:Nat)(s:S),bu base (fun _=>false) i l s=s
 | [],_,_=>rfl
 | (o,d)::l,i,s=>by unfold bu;simpa using ij base l (i+1) s
theorem jm(base:Nat)(c:Nat→Bool):∀ (l m:List (Oper×cn))(i:Nat)(s:S),bu base c i (l++m) s=bu base c (i+l.length) m (bu base c i l s)
 | [],m,i,s=>rfl
 | (o,d)::l,m,i,s=>by
  simp only [List.cons_append,bu,List.length_cons]
  rw [jm base c l m (i+1)]
  congr 1;omega
theorem vh{base:Nat}{c:Nat→Bool}{l:List (Oper×cn)}{s:S}{i:Nat}{o:Oper}{d:cn}(hi:l[i]?=some (o,d))(hci:c i=false)
 (hfree:∀ (j:Nat) (o':Oper) (d':cn),l[j]?=some (o',d')→c j=true→i<j→(∀ x∈o.dst.toList,x∉o'.dst.toList)∧(∀ n∈gM (base+i) d,n∉gM (base+j) d')∧(∀ n∈gi (base+i) d,n∉gi (base+j) d')) :
 (bu base c 0 l s).dl (base+i) o.dst d.v d.new d.wr=bu base (wQ c i) 0 l s:=by
 refine S.ext' ((eL ..).trans ((bw ..).trans (bw ..).symm)) (fun x=>?_) (fun n=>?_) fun n=>?_
 ·have hlt:=(List.getElem?_eq_some_iff.1 hi).1
  have hsp:l=l.take i++(o,d)::l.drop (i+1):=by
   have:=List.getElem?_eq_some_iff.1 hi
   rw [← this.2,List.getElem_cons_drop,List.take_append_drop]
  by_cases hx:x∈o.dst.toList
  ·have hr:(bu base (wQ c i) 0 l s).fr[x]?=((bu base (wQ c i) 0 (l.take i) s).dl (base+i) o.dst d.v d.new d.wr).fr[x]?:=by
    rw [hsp,jm]
    rw [← hsp,List.length_take,Nat.min_eq_left ab,Nat.zero_add]
    simp only [bu,wQ,if_true]
    rw [jP (c':=fun _=>false) _ _ _ _ rfl rfl fun j o' d' hj hx'=>?_,ij]
    have hj':l[i+1+j]?=some (o',d'):=by rw [List.getElem?_drop]at hj;exact hj
    show(if i+1+j=i then true else c (i+1+j))=false
    rw [if_neg ab]
    cases hc:c (i+1+j)with
    | false=>rfl
    | true=>exact absurd hx' ((hfree _ _ _ hj' hc ab).1 x hx)
   rw [hr]
   exact tM (by rw [(bw ..).frl,(bw ..).frl]) hx
  rw [nd hx]
  refine jP l 0 s s rfl rfl fun j o' d' hj hx'=>?_
  rw [Nat.zero_add]
  unfold wQ
  split
  ·rename_i e
   subst e
   rw [hi]at hj
   cases hj
   exact absurd hx' hx
  rfl
 ·have hlt:=(List.getElem?_eq_some_iff.1 hi).1
  have hsp:l=l.take i++(o,d)::l.drop (i+1):=by
   have:=List.getElem?_eq_some_iff.1 hi
   rw [← this.2,List.getElem_cons_drop,List.take_append_drop]
  by_cases hx:n∈gM (base+i) d
  ·have hr:(bu base (wQ c i) 0 l s).hp[n]?=((bu base (wQ c i) 0 (l.take i) s).dl (base+i) o.dst d.v d.new d.wr).hp[n]?:=by
    rw [hsp,jm]
    rw [← hsp,List.length_take,Nat.min_eq_left ab,Nat.zero_add]
    simp only [bu,wQ,if_true]
    rw [jQ (c':=fun _=>false) _ _ _ _ rfl rfl fun j o' d' hj=>?_,ij]
    have hj':l[i+1+j]?=some (o',d'):=by rw [List.getElem?_drop]at hj;exact hj
    intro hx'
    show(if i+1+j=i then true else c (i+1+j))=false
    rw [if_neg ab]
    cases hc:c (i+1+j)with
    | false=>rfl
    | true=>exact absurd hx' ((hfree _ _ _ hj' hc ab).2.1 n hx)
   rw [hr]
   exact tN (by rw [(bw ..).hpl,(bw ..).hpl]) (.inr hx)
  rw [nf hx]
  refine jQ l 0 s s rfl rfl fun j o' d' hj hx'=>?_
  rw [Nat.zero_add]at hx' ⊢
  unfold wQ
  split
  ·rename_i e
   subst e
   rw [hi]at hj
   cases hj
   exact absurd hx' hx
  rfl
 have hlt:=(List.getElem?_eq_some_iff.1 hi).1
 have hsp:l=l.take i++(o,d)::l.drop (i+1):=by
  have:=List.getElem?_eq_some_iff.1 hi
  rw [← this.2,List.getElem_cons_drop,List.take_append_drop]
 by_cases hx:n∈gi (base+i) d
 ·have hr:(bu base (wQ c i) 0 l s).ln[n]?=((bu base (wQ c i) 0 (l.take i) s).dl (base+i) o.dst d.v d.new d.wr).ln[n]?:=by
   rw [hsp,jm]
   rw [← hsp,List.length_take,Nat.min_eq_left ab,Nat.zero_add]
   simp only [bu,wQ,if_true]
   rw [jR (c':=fun _=>false) _ _ _ _ rfl rfl fun j o' d' hj=>?_,ij]
   have hj':l[i+1+j]?=some (o',d'):=by rw [List.getElem?_drop]at hj;exact hj
   intro hx'
   show(if i+1+j=i then true else c (i+1+j))=false
   rw [if_neg ab]
   cases hc:c (i+1+j)with
   | false=>rfl
   | true=>exact absurd hx' ((hfree _ _ _ hj' hc ab).2.2 n hx)
  rw [hr]
  exact tO (by rw [(bw ..).lnl,(bw ..).lnl]) (.inr hx)
 rw [ng hx]
 refine jR l 0 s s rfl rfl fun j o' d' hj hx'=>?_
 rw [Nat.zero_add]at hx' ⊢
 unfold wQ
 split
 ·rename_i e
  subst e
  rw [hi]at hj
  cases hj
  exact absurd hx' hx
 rfl
inductive zq (all:List Oper):Nat→Nat→Prop
 | one {p j:Nat} {o:Oper}:all[j]?=some o→p∈fv o→zq all p j
 | more {p q j:Nat} {o:Oper}:all[j]?=some o→q∈fv o→zq all p q→zq all p j
theorem pW(all:List Oper):∀ (l:List Oper)(acc:List (List Nat)),(∀ j,l[j]?=all[acc.length+j]?)→(∀ j i,i∈acc.getD j []→zq all i j)→∀ j i,i∈(mz l acc).getD j []→zq all i j
 | [],acc,_,h,j,i,hi=>h j i hi
 | o::l,acc,hl,h,j,i,hi=>by
  unfold mz at hi
  refine pW all l _ (fun k=>?_) (fun k m hm=>?_) j i hi
  ·have:=hl (k+1)
   rw [List.length_append,List.length_singleton,show acc.length+1+k=acc.length+(k+1) by omega,← this]
   simp
  by_cases hk:k<acc.length
  ·rw [List.getD_eq_getElem?_getD,List.getElem?_append_left hk,← List.getD_eq_getElem?_getD]at hm
   exact h k m hm
  rw [List.getD_eq_getElem?_getD,List.getElem?_append_right ab]at hm
  have h0:k-acc.length=0:=by
   rcases Nat.eq_zero_or_pos (k-acc.length)with h0|h0
   ·exact h0
   rw [List.getElem?_eq_none aw]at hm;simp at hm
  rw [h0]at hm
  have hk':k=acc.length:=ab
  subst hk'
  have ho:all[acc.length]?=some o:=by have:=hl 0;simpa using this.symm
  simp only [List.getElem?_cons_zero,Option.getD_some]at hm
  replace hm:=rb hm
  simp only [List.mem_append,List.mem_flatMap]at hm
  rcases hm with hm|⟨p,hp,hm⟩
  ·exact .one ho hm
  exact .more ho hp (h p m hm)
def dn(all:List Oper)(c:Nat→Bool):Prop:=∀ j o p,all[j]?=some o→c j=true→p∈fv o→c p=true
theorem dn.tu{all:List Oper}{c:Nat→Bool}(h:dn all c){i j:Nat}(ha:zq all i j):c j=true→c i=true:=by
 induction ha with
 | one ho hp=>exact fun hc=>h _ _ _ ho hc hp
 | more ho hq _ ih=>exact fun hc=>ih (h _ _ _ ho hc hq)
theorem rv{base:Nat}{tu:List (List Nat)}{j:Nat}{o':Oper}{d':cn}:∀ {l:List (Oper×cn)}{i k:Nat}{o:Oper}{d:cn},ru base tu j o' d' i l=true→l[k]?=some (o,d)→conflict base (i+k) j o d o' d'=true→(i+k)∈tu.getD j []
 | [],_,_,_,_,_,h,_=>by simp at h
 | (o0,d0)::l,i,0,o,d,h,hk,hc=>by
  simp only [ru,Bool.and_eq_true,Bool.or_eq_true,Bool.not_eq_true']at h
  obtain⟨rfl,rfl⟩:o0=o∧d0=d:=af hk
  rcases h.1 with h1|h1
  ·rw [Nat.add_zero,h1]at hc;cases hc
  simpa using h1
 | (o0,d0)::l,i,k+1,o,d,h,hk,hc=>by
  simp only [ru,Bool.and_eq_true]at h
  have:=rv (k:=k) h.2 (af hk) (by rwa [show i+1+k=i+(k+1) by omega])
  rwa [show i+1+k=i+(k+1) by omega]at this
theorem eC{base:Nat}{tu:List (List Nat)}:∀ {l pre:List (Oper×cn)},lU base tu pre l=true→∀ {i j:Nat}{o o':Oper}{d d':cn},(pre++l)[i]?=some (o,d)→l[j]?=some (o',d')→i<pre.length+j→conflict base i (pre.length+j) o d o' d'=true→i∈tu.getD (pre.length+j) []
 | [],_,_,_,_,_,_,_,_,_,h,_,_=>by simp at h
 | (o0,d0)::l,pre,h,i,j,o,o',d,d',hi,hj,hlt,hc=>by
  simp only [lU,Bool.and_eq_true]at h
  cases j with
  | zero =>
   obtain⟨rfl,rfl⟩:o0=o'∧d0=d':=af hj
   rw [Nat.add_zero]at hlt hc ⊢
   have:=rv (i:=0) (k:=i) h.1 (by rw [← hi,List.getElem?_append_left hlt]) (by rwa [Nat.zero_add])
   rwa [Nat.zero_add]at this
  | succ j =>
   have:=eC (l:=l) (pre:=pre++[(o0,d0)]) h.2 (i:=i) (j:=j) (o:=o) (o':=o') (d:=d) (d':=d') (af hi) (af hj) aw (by simpa [show pre.length+1+j=pre.length+(j+1) by omega]using hc)
   simpa [show pre.length+1+j=pre.length+(j+1) by omega]using this
theorem ik:∀ {l:List Oper}{i:Nat},ol i l=true→∀ {j:Nat}{o:Oper}{p:Nat},l[j]?=some o→p∈fv o→p<i+j
 | [],_,_,_,_,_,h,_=>by simp at h
 | o0::l,i,h,j,o,p,hj,hp=>by
  simp only [ol,Bool.and_eq_true]at h
  cases j with
  | zero =>
   obtain rfl:o0=o:=af hj
   have:=List.all_eq_true.1 h.1 p hp
   simpa using this
  | succ j =>
   have:=ik (j:=j) h.2 (af hj) hp
   omega
theorem hO{o:Oper}{p:Nat}:p∈fv o↔∃ e∈o.after,Region.binds .any e=true∧e.on=p:=by
 simp [fv,and_assoc]
theorem bA{l m:List Nat}(h:meets l m=false):∀ x∈l,x∉m:=fun x hx hm=>by
 have:meets l m=true:=List.any_eq_true.2 ⟨x,hx,af hm⟩
 rw [h]at this
 cases this
section
variable {C:Cx}{w0:fB}{ps:List (World→Prop)}{T:List TF}{ρ:List Value}{Q:Exit→Act→World→Prop}
theorem lu{F:Fence}{m:Nat}{P:Program}{ops:Array Oper}{md:Region.Mode}(I:Array Bool→Act→World→Prop)
 (hstep:∀ listed a w i,listed.size=ops.size→I listed a w→i∈Region.ready md ops listed→wpOpIn F m P ops Q i (fun a' w'=>I (listed.setIfInBounds i true) a' w') a w)
 (hend:∀ listed a w,listed.size=ops.size→I listed a w→Region.ready md ops listed=[]→Q .normal a w) :
 ∀ fuel listed a w,listed.size=ops.size→(listed.toList.filter (! ·)).length≤fuel→I listed a w→wpAnyIn F m P md ops Q fuel listed a w:=by
 intro fuel
 induction fuel with
 | zero =>
  intro listed a w hs hc hI
  have hr:Region.ready md ops listed=[]:=by
   rw [Region.ready,List.filter_eq_nil_iff]
   intro i hi
   have hi':i<listed.size:=by rw [hs];simpa using hi
   have:listed[i]=true:=by
    cases hb:listed[i]with
    | true=>rfl
    | false =>
     exfalso
     have hm:false∈listed.toList.filter (! ·):=by
      rw [List.mem_filter]
      exact⟨by rw [← hb];exact Array.getElem_mem_toList hi',rfl⟩
     have:=List.length_pos_of_mem hm
     omega
   simp [Array.getD,hi',this]
  exact⟨hr,hend _ _ _ hs hI hr⟩
 | succ fuel ih =>
  intro listed a w hs hc hI
  refine⟨fun h0=>hend _ _ _ hs hI h0,fun i hi=>wpOpIn_mono (fun a' w' h'=>?_) (hstep listed a w i hs hI hi)⟩
  refine ih _ _ _ (af hs) ?_ h'
  have hi1:i<ops.size∧listed.getD i true=false:=by
   rw [Region.ready,List.mem_filter]at hi
   exact⟨by simpa using hi.1,by have:=hi.2;simp only [Bool.and_eq_true,Bool.not_eq_true']at this;exact this.1⟩
  have hlt:i<listed.toList.length:=by simp [hs,hi1.1]
  have hf:listed.toList[i]=false:=by
   have h2:=hi1.2
   simp only [Array.getD,show i<listed.size by omega,dif_pos]at h2
   simpa using h2
  have:=count_set listed.toList i hlt hf
  rw [Array.toList_setIfInBounds]
  omega
def qq(C:Cx)(rr:Option Nat)(w0:fB)(ps:List (World→Prop))(T:List TF)(ρ:List Value)(Q:Exit→Act→World→Prop)(all:Array Oper)(nm:Nat)(o:Oper)(d:cn)(pre:S):Prop :=
 ∀ (s:S) (a:Act) (W:World) (K:Act→World→Prop),fa s pre→eI d.slots (nm::d.names) (nm::d.snames) s pre→Inv w0 ps T ρ s a W→(∀ a' W',Inv w0 ps T ρ (s.dl nm o.dst d.v d.new d.wr) a' W'→K a' W') →
  if Region.wanted o (yielded all a.tmps)=true then o.wpIn (FW rr) 0 C.P a W K Q else K (a.put o.dst undef) W
theorem xM{rr:Option Nat}{id:Nat}{l:List Oper}{ds:List cn}{base:Nat}{s0:S}{a:Act}{W:World}(hm:C.P.follows .mixedOrders=true)(hord:vV base l ds=true)
 (hst:∀ (i:Nat) (o:Oper) (d:cn),(l.zip ds)[i]?=some (o,d)→qq C rr w0 ps T ρ Q l.toArray (base+i) o d (bu base (fun j=>decide (j<i)) 0 (l.zip ds) s0)) (hI:Inv w0 ps T ρ s0 a W)
 (hK:∀ a' W',Inv w0 ps T ρ (bu base (fun _=>true) 0 (l.zip ds) s0) a' W'→Q .normal a' W'):jd rr C.P (Code.region id l.toArray true) Q a W:=by
 simp only [vV,Bool.and_eq_true,decide_eq_true_eq]at hord
 obtain⟨⟨hback,hlen⟩,hpairs⟩:=hord
 have hanc:∀ j i,i∈(mz l []).getD j []→zq l i j:=pW l l [] ai ai
 have hzip:∀ i o,l[i]?=some o→∃ d,(l.zip ds)[i]?=some (o,d):=fun i o ho=>by
  have h1:=(List.getElem?_eq_some_iff.1 ho).1
  exact⟨ds[i]'ab,List.getElem?_zip_eq_some.2 ⟨ho,List.getElem?_eq_getElem _⟩⟩
 have hzl:∀ i o d,(l.zip ds)[i]?=some (o,d)→l[i]?=some o:=fun i o d h=>(List.getElem?_zip_eq_some.1 h).1
 have hfree:∀ {c:Nat→Bool} {i j:Nat} {o o':Oper} {d d':cn},dn l c→c i=false→c j=true→(l.zip ds)[i]?=some (o,d)→(l.zip ds)[j]?=some (o',d')→i<j→conflict base i j o d o' d'=false:=fun {c i j o o' d d'} hc hi hj ho ho' hlt=>by
  cases hq:conflict base i j o d o' d' with
  | false=>rfl
  | true =>
   have:=eC hpairs (i:=i) (j:=j) ho ho' (af hlt) (af hq)
   have h2:=hc.tu (hanc _ _ (af this)) hj
   rw [hi]at h2;cases h2
 have hbefore:∀ {i j:Nat} {o o':Oper} {d d':cn} {c:Nat→Bool},(l.zip ds)[i]?=some (o,d)→(l.zip ds)[j]?=some (o',d')→j<i→(∀ p∈fv o,c p=true)→dn l c→c j=false→conflict base j i o' d' o d=false:=fun {i j o o' d d' c} ho ho' hlt hp hc hj=>by
  cases hq:conflict base j i o' d' o d with
  | false=>rfl
  | true =>
   have:=hanc _ _ (by simpa using eC hpairs (i:=j) (j:=i) ho' ho (af hlt) (af hq))
   exfalso
   have key:c j=true:=by
    cases this with
    | one ho2 hp2=>rw [hzl _ _ _ ho]at ho2;cases ho2;exact hp _ hp2
    | more ho2 hq2 ha=>rw [hzl _ _ _ ho]at ho2;cases ho2;exact hc.tu ha (hp _ hq2)
   rw [hj]at key;cases key
 refine wpIn_region_any hm (lu (fun listed b W=>dn l (fun i=>listed.getD i false)∧Inv w0 ps T ρ (bu base (fun i=>listed.getD i false) 0 (l.zip ds) s0) b W) ?_ ?_ l.toArray.size _ _ _ ai ?_ ?_)
 ·rintro listed b W i hs ⟨hcl,hinv⟩ hi
  obtain⟨hu,o,ho,hpre⟩:=mem_ready.1 hi
  have hol:l[i]?=some o:=af ho
  obtain⟨d,hd⟩:=hzip i o hol
  have hci:listed.getD i false=false:=getD_both hu
  have hpreds:∀ p∈fv o,listed.getD p false=true:=fun p hp=>by
   obtain⟨e,he,hb,rfl⟩:=hO.1 hp
   exact hpre e he hb
  have hstep:=hst i o d hd
  have hagree:eI d.slots ((base+i)::d.names) ((base+i)::d.snames) (bu base (fun i=>listed.getD i false) 0 (l.zip ds) s0) (bu base (fun j=>decide (j<i)) 0 (l.zip ds) s0):=by
   refine⟨fun x hx=>jP _ 0 s0 s0 rfl rfl fun j o' d' hj hx'=>?_,fun n hn=>jQ _ 0 s0 s0 rfl rfl fun j o' d' hj hx'=>?_,fun n hn=>jR _ 0 s0 s0 rfl rfl fun j o' d' hj hx'=>?_⟩
   ·rw [Nat.zero_add]
    rcases Nat.lt_trichotomy j i with hlt|rfl|hgt
    ·have h3:decide (j<i)=true:=af hlt
     rw [h3]
     cases hq:listed.getD j false with
     | true=>rfl
     | false =>
      have:=hbefore (c:=fun i=>listed.getD i false) hd hj hlt hpreds hcl hq
      simp only [conflict,Bool.or_eq_false_iff]at this
      exact absurd (List.mem_append_left _ hx) (bA this.1.1.1.1.1 x hx')
    ·rw [hci];simp
    have h3:decide (j<i)=false:=aw
    rw [h3]
    cases hq:listed.getD j false with
    | false=>rfl
    | true =>
     have:=hfree (c:=fun i=>listed.getD i false) hcl hci hq hd hj hgt
     simp only [conflict,Bool.or_eq_false_iff]at this
     exact absurd hx (bA this.1.1.1.1.2 x hx')
   ·rw [Nat.zero_add]at hx' ⊢
    rcases Nat.lt_trichotomy j i with hlt|rfl|hgt
    ·have h3:decide (j<i)=true:=af hlt
     rw [h3]
     cases hq:listed.getD j false with
     | true=>rfl
     | false =>
      have:=hbefore (c:=fun i=>listed.getD i false) hd hj hlt hpreds hcl hq
      simp only [conflict,Bool.or_eq_false_iff]at this
      refine absurd ?_ (bA this.1.1.1.2 n hx')
      rcases List.mem_cons.1 hn with rfl|hn
      ·simp
      simp [hn]
    ·rw [hci];simp
    have h3:decide (j<i)=false:=aw
    rw [h3]
    cases hq:listed.getD j false with
    | false=>rfl
    | true =>
     have:=hfree (c:=fun i=>listed.getD i false) hcl hci hq hd hj hgt
     simp only [conflict,Bool.or_eq_false_iff]at this
     refine absurd ?_ (bA this.1.1.2 n hx')
     rcases List.mem_cons.1 hn with rfl|hn
     ·simp
     simp [hn]
   rw [Nat.zero_add]at hx' ⊢
   rcases Nat.lt_trichotomy j i with hlt|rfl|hgt
   ·have h3:decide (j<i)=true:=af hlt
    rw [h3]
    cases hq:listed.getD j false with
    | true=>rfl
    | false =>
     have:=hbefore (c:=fun i=>listed.getD i false) hd hj hlt hpreds hcl hq
     simp only [conflict,Bool.or_eq_false_iff]at this
     refine absurd ?_ (bA this.1.2 n hx')
     rcases List.mem_cons.1 hn with rfl|hn
     ·simp
     simp [hn]
   ·rw [hci];simp
   have h3:decide (j<i)=false:=aw
   rw [h3]
   cases hq:listed.getD j false with
   | false=>rfl
   | true =>
    have:=hfree (c:=fun i=>listed.getD i false) hcl hci hq hd hj hgt
    simp only [conflict,Bool.or_eq_false_iff]at this
    refine absurd ?_ (bA this.2 n hx')
    rcases List.mem_cons.1 hn with rfl|hn
    ·simp
    simp [hn]
  have hsame:fa (bu base (fun i=>listed.getD i false) 0 (l.zip ds) s0) (bu base (fun j=>decide (j<i)) 0 (l.zip ds) s0) :=
   (bw ..).trans (bw ..).symm
  have hfin:=hstep _ b W (fun a' w'=>dn l (fun j=>(listed.setIfInBounds i true).getD j false)∧Inv w0 ps T ρ (bu base (fun j=>(listed.setIfInBounds i true).getD j false) 0 (l.zip ds) s0) a' w') hsame hagree hinv fun a' W' h=>by
   have hmask:(fun j=>(listed.setIfInBounds i true).getD j false)=wQ (fun j=>listed.getD j false) i:=by
    funext j
    unfold wQ
    by_cases e:j=i
    ·subst e
     have hlt:j<listed.size:=by rw [hs];simpa using (List.getElem?_eq_some_iff.1 hol).1
     simp [Array.getD_eq_getD_getElem?,hlt]
    rw [if_neg e,getD_set_ne false (fun h=>e h.symm)]
   refine⟨?_,?_⟩
   ·rw [hmask]
    intro j o' p hj hcj hp
    unfold wQ at hcj ⊢
    by_cases e:p=i
    ·rw [if_pos e]
    rw [if_neg e]
    by_cases e2:j=i
    ·subst e2
     rw [hol]at hj;cases hj
     exact hpreds p hp
    rw [if_neg e2]at hcj
    exact hcl j o' p hj hcj hp
   rw [hmask,← vh hd hci fun j o' d' hj hcj hlt=>?_]
   ·exact h
   ·have:=hfree (c:=fun i=>listed.getD i false) hcl hci hcj hd hj hlt
    simp only [conflict,Bool.or_eq_false_iff]at this
    exact⟨fun x hx hx'=>bA this.1.1.1.1.1 x hx (List.mem_append_right _ hx'),fun n hn hn'=>bA this.1.1.1.2 n hn (by simp [hn']),fun n hn hn'=>bA this.1.2 n hn (by simp [mJ hn'])⟩
  unfold wpOpIn
  rw [ho]
  dsimp only
  split
  ·rename_i hw;rw [if_pos hw]at hfin;exact hfin
  rename_i hw;rw [if_neg hw]at hfin;exact⟨fun _ _=>trivial,hfin⟩
 ·rintro listed b W hs ⟨hcl,hinv⟩ hr
  have hall:∀ i,i<l.length→listed.getD i false=true:=by
   intro i
   induction i using Nat.strongRecOn with
   | ind i ih =>
    intro hi
    cases hb:listed.getD i false with
    | true=>rfl
    | false =>
     exfalso
     have hm:i∈Region.ready .any l.toArray listed:=by
      refine mem_ready.2 ⟨getD_in (by rw [hs];simpa using hi) hb,l[i],by simp [hi],fun e he hbd=>?_⟩
      have:=ik hback (List.getElem?_eq_getElem hi) (hO.2 ⟨e,he,hbd,rfl⟩)
      rw [Nat.zero_add]at this
      exact ih e.on this ab
     rw [hr]at hm
     cases hm
  have he:bu base (fun i=>listed.getD i false) 0 (l.zip ds) s0=bu base (fun _=>true) 0 (l.zip ds) s0:=by
   refine S.ext' ((bw ..).trans (bw ..).symm) (fun x=>jP _ 0 s0 s0 rfl rfl fun j o' d' hj _=>?_) (fun n=>jQ _ 0 s0 s0 rfl rfl fun j o' d' hj _=>?_) fun n=>jR _ 0 s0 s0 rfl rfl fun j o' d' hj _=>?_
   all_goals
    rw [Nat.zero_add]
    exact hall j (List.getElem?_eq_some_iff.1 (hzl _ _ _ hj)).1
  rw [he]at hinv
  exact hK _ _ hinv
 ·rw [Array.toList_replicate];exact Nat.le_trans (List.length_filter_le _ _) ai
 have hz:(fun i=>(Array.replicate l.toArray.size false).getD i false)=fun _=>false:=funext fun i=>getD_replicate_false _ _
 refine⟨(by rw [hz];exact fun j o p _ hc _=>nomatch hc),?_⟩
 have:bu base (fun i=>(Array.replicate l.toArray.size false).getD i false) 0 (l.zip ds) s0=s0:=by
  rw [hz,ij]
 rw [this]
 exact hI.step ((Below.refl _ _).drew)
theorem IH{rr:Option Nat}{P:Program}{o:Oper}{all:Array Oper}{y:Nat}{v:Value}{b:Act}{W:World}{K:Act→World→Prop}(hp:vX o.op=true)(hy:y∉o.looksAt all)(hyd:o.dst≠some y)(hQ:∀ c a w,¬ Q (.panic c) a w)
 (h:o.wpIn (FW rr) 0 P (b.put (some y) v) W K Q):o.wpIn (FW rr) 0 P b W (fun a W=>K (a.put (some y) v) W) Q:=by
 have hs:∀ cs b,o.op≠.select cs b:=fun cs b e=>by rw [e]at hp;cases hp
 have hd:∀ c,o.op≠.defer c:=fun c e=>by rw [e]at hp;cases hp
 refine⟨fun _ _=>trivial,?_⟩
 have h:=h.2
 rw [Oper.semAt_eq _ _ _ hd,execOp_put (ops:=all) o hs b (some y) v (fun d e=>by cases e;exact hy)]at h
 rw [Oper.semAt_eq _ _ _ hd]
 have hc:∀ (a:Act) u,(a.put (some y) v).put o.dst u=(a.put o.dst u).put (some y) v:=fun a u=>Act.put_comm a v u fun d e=>by cases e;exact hyd
 generalize (execOp b.eval o).run P W=r at h ⊢
 cases r with
 | ok x w' =>
  cases x<;>simp only [Oper.uponIn]at h ⊢
  case value u=>rw [← hc];exact h
  case skip=>rw [← hc];exact h
  case defer d=>rw [← hc,← Act.put_defers];exact h
  case enter f as'=>exact⟨h.1,CallsIn.mono h.2 fun e w'' he=>by cases e<;>first|(show K _ _;rw [← hc];exact he)|exact(hQ _ _ _ he).elim|exact he⟩
  case row f as'=>exact⟨h.1,RowsIn.mono h.2 fun e w'' he=>by rw [← hc];exact he⟩
  case round l f t as' bd=>exact⟨h.1,RoundIn.mono h.2 fun e w'' he=>by cases e<;>first|(show K _ _;rw [← hc];exact he)|exact(hQ _ _ _ he).elim|exact he⟩
  all_goals exact h
 | halt x w'=>cases x<;>simp only [Oper.uponIn]at h ⊢<;>first|exact(hQ _ _ _ h).elim|exact h
theorem u9{rr:Option Nat}{P:Program}{o:Oper}{x y:Nat}{b:Act}{W:World}{K:Act→World→Prop}(hm:j6 o=some (x,y)):o.wpIn (FW rr) 0 P b W K Q↔K (b.put (some y) (b.eval (.tmp x))) W:=by
 obtain⟨dst,op,ty,pos,aft,g⟩:=o
 unfold j6 at hm
 split at hm
 ·rename_i hg ho hd
  cases hm
  simp only at hg ho hd
  subst hg;subst ho;subst hd
  unfold Oper.wpIn
  rw [Oper.semAt_eq _ _ _ (by intro c e;cases e)]
  simp only [execOp]
  exact⟨fun h=>h.2,fun h=>⟨fun _ _=>trivial,h⟩⟩
 cases hm
theorem mn{o:Oper}{x y:Nat}(hm:j6 o=some (x,y))(l:Nat→Option Bool):Region.wanted o l=true:=by
 unfold j6 at hm
 split at hm
 ·rename_i hg _ _
  simp [Region.wanted,hg]
 cases hm
theorem eb{listed:Array Bool}{i k:Nat}(h:i<listed.size):(listed.setIfInBounds i true).getD k false=if k=i then true else listed.getD k false:=by
 by_cases e:k=i
 ·subst e
  simp [Array.getD_eq_getD_getElem?,h]
 rw [if_neg e,getD_set_ne false (fun h=>e h.symm)]
theorem Fc{rr:Option Nat}{P:Program}{o:Oper}{b:Act}{W:World}{K K':Act→World→Prop}(hp:vX o.op=true)(h:o.wpIn (FW rr) 0 P b W K Q)(hk:∀ u ds' W',K (({ b with defers:=ds' }:Act).put o.dst u) W'→K' (({ b with defers:=ds' }:Act).put o.dst u) W'):o.wpIn (FW rr) 0 P b W K' Q:=by
 refine⟨h.1,?_⟩
 have h:=h.2
 generalize (o.semAt (FW rr).round b.eval).run P W=r at h ⊢
 cases r with
 | ok x w' =>
  cases x<;>simp only [Oper.uponIn]at h ⊢
  case value u=>exact hk u b.defers w' h
  case skip=>exact hk undef b.defers w' h
  case defer d=>exact hk undef (d::b.defers) w' h
  case enter f as'=>exact⟨h.1,CallsIn.mono h.2 fun e w'' he=>by cases e<;>first|exact hk _ b.defers _ he|exact he⟩
  case row f as'=>exact⟨h.1,RowsIn.mono h.2 fun e w'' he=>hk _ b.defers _ he⟩
  case round l f t as' bd=>exact⟨h.1,RoundIn.mono h.2 fun e w'' he=>by cases e<;>first|exact hk _ b.defers _ he|exact he⟩
  all_goals exact h
 | halt x w'=>cases x<;>simp only [Oper.uponIn]at h ⊢<;>exact h
theorem List.fX{l:List Nat}{x:Nat}:l.contains x=false↔x∉l:=by
 rw [← Bool.not_eq_true,List.contains_iff_mem]
theorem Dv{rr:Option Nat}{id:Nat}{l:List Oper}{ds:List cn}{base:Nat}{s0:S}{a:Act}{W:World}(hm:C.P.follows .mixedOrders=true)(hQ:∀ c a w,¬ Q (.panic c) a w)(hord:wL base l ds=true)
 (hst:∀ (i:Nat) (o:Oper) (d:cn),(l.zip ds)[i]?=some (o,d)→qq C rr w0 ps T ρ Q l.toArray (base+i) o d (bu base (fun j=>decide (j<i)) 0 (l.zip ds) s0)) (hI:Inv w0 ps T ρ s0 a W)
 (hK:∀ a' W',Inv w0 ps T ρ (bu base (fun _=>true) 0 (l.zip ds) s0) a' W'→dJ rr C.P l.toArray Q (l.drop ds.length) a' W'):jd rr C.P (Code.region id l.toArray true) Q a W:=by
 simp only [wL,Bool.and_eq_true,decide_eq_true_eq]at hord
 obtain⟨⟨⟨hback,hlen⟩,hpairs⟩,hlast⟩:=hord
 rw [List.all_eq_true]at hlast
 have hanc:∀ j i,i∈(mz l []).getD j []→zq l i j:=pW l l [] ai ai
 have hzip:∀ i o,i<ds.length→l[i]?=some o→∃ d,(l.zip ds)[i]?=some (o,d):=fun i o hid ho=>by
  have h1:=(List.getElem?_eq_some_iff.1 ho).1
  exact⟨ds[i]'ab,List.getElem?_zip_eq_some.2 ⟨ho,List.getElem?_eq_getElem _⟩⟩
 have hzl:∀ i o d,(l.zip ds)[i]?=some (o,d)→l[i]?=some o:=fun i o d h=>(List.getElem?_zip_eq_some.1 h).1
 have hfree:∀ {c:Nat→Bool} {i j:Nat} {o o':Oper} {d d':cn},dn l c→c i=false→c j=true→(l.zip ds)[i]?=some (o,d)→(l.zip ds)[j]?=some (o',d')→i<j→conflict base i j o d o' d'=false:=fun {c i j o o' d d'} hc hi hj ho ho' hlt=>by
  cases hq:conflict base i j o d o' d' with
  | false=>rfl
  | true =>
   have:=eC hpairs (i:=i) (j:=j) ho ho' (af hlt) (af hq)
   have h2:=hc.tu (hanc _ _ (af this)) hj
   rw [hi]at h2;cases h2
 have hbefore:∀ {i j:Nat} {o o':Oper} {d d':cn} {c:Nat→Bool},(l.zip ds)[i]?=some (o,d)→(l.zip ds)[j]?=some (o',d')→j<i→(∀ p∈fv o,c p=true)→dn l c→c j=false→conflict base j i o' d' o d=false:=fun {i j o o' d d' c} ho ho' hlt hp hc hj=>by
  cases hq:conflict base j i o' d' o d with
  | false=>rfl
  | true =>
   have:=hanc _ _ (by simpa using eC hpairs (i:=j) (j:=i) ho' ho (af hlt) (af hq))
   exfalso
   have key:c j=true:=by
    cases this with
    | one ho2 hp2=>rw [hzl _ _ _ ho]at ho2;cases ho2;exact hp _ hp2
    | more ho2 hq2 ha=>rw [hzl _ _ _ ho]at ho2;cases ho2;exact hc.tu ha (hp _ hq2)
   rw [hj]at key;cases key
 let c0:Array Bool→Nat→Bool:=fun listed i=>listed.getD i false
 have hagr:∀ {listed:Array Bool} {i:Nat} {o:Oper} {d:cn},(l.zip ds)[i]?=some (o,d)→listed.getD i false=false→(∀ p∈fv o,listed.getD p false=true)→dn l (fun i=>listed.getD i false) →
  eI d.slots ((base+i)::d.names) ((base+i)::d.snames) (bu base (fun i=>listed.getD i false) 0 (l.zip ds) s0) (bu base (fun j=>decide (j<i)) 0 (l.zip ds) s0)∧fa (bu base (fun i=>listed.getD i false) 0 (l.zip ds) s0) (bu base (fun j=>decide (j<i)) 0 (l.zip ds) s0):=by
  intro listed i o d hd hci hpreds hcl
  have hagree:eI d.slots ((base+i)::d.names) ((base+i)::d.snames) (bu base (fun i=>listed.getD i false) 0 (l.zip ds) s0) (bu base (fun j=>decide (j<i)) 0 (l.zip ds) s0):=by
   refine⟨fun x hx=>jP _ 0 s0 s0 rfl rfl fun j o' d' hj hx'=>?_,fun n hn=>jQ _ 0 s0 s0 rfl rfl fun j o' d' hj hx'=>?_,fun n hn=>jR _ 0 s0 s0 rfl rfl fun j o' d' hj hx'=>?_⟩
   ·rw [Nat.zero_add]
    rcases Nat.lt_trichotomy j i with hlt|rfl|hgt
    ·have h3:decide (j<i)=true:=af hlt
     rw [h3]
     cases hq:listed.getD j false with
     | true=>rfl
     | false =>
      have:=hbefore (c:=fun i=>listed.getD i false) hd hj hlt hpreds hcl hq
      simp only [conflict,Bool.or_eq_false_iff]at this
      exact absurd (List.mem_append_left _ hx) (bA this.1.1.1.1.1 x hx')
    ·rw [hci];simp
    have h3:decide (j<i)=false:=aw
    rw [h3]
    cases hq:listed.getD j false with
    | false=>rfl
    | true =>
     have:=hfree (c:=fun i=>listed.getD i false) hcl hci hq hd hj hgt
     simp only [conflict,Bool.or_eq_false_iff]at this
     exact absurd hx (bA this.1.1.1.1.2 x hx')
   ·rw [Nat.zero_add]at hx' ⊢
    rcases Nat.lt_trichotomy j i with hlt|rfl|hgt
    ·have h3:decide (j<i)=true:=af hlt
     rw [h3]
     cases hq:listed.getD j false with
     | true=>rfl
     | false =>
      have:=hbefore (c:=fun i=>listed.getD i false) hd hj hlt hpreds hcl hq
      simp only [conflict,Bool.or_eq_false_iff]at this
      refine absurd ?_ (bA this.1.1.1.2 n hx')
      rcases List.mem_cons.1 hn with rfl|hn
      ·simp
      simp [hn]
    ·rw [hci];simp
    have h3:decide (j<i)=false:=aw
    rw [h3]
    cases hq:listed.getD j false with
    | false=>rfl
    | true =>
     have:=hfree (c:=fun i=>listed.getD i false) hcl hci hq hd hj hgt
     simp only [conflict,Bool.or_eq_false_iff]at this
     refine absurd ?_ (bA this.1.1.2 n hx')
     rcases List.mem_cons.1 hn with rfl|hn
     ·simp
     simp [hn]
   rw [Nat.zero_add]at hx' ⊢
   rcases Nat.lt_trichotomy j i with hlt|rfl|hgt
   ·have h3:decide (j<i)=true:=af hlt
    rw [h3]
    cases hq:listed.getD j false with
    | true=>rfl
    | false =>
     have:=hbefore (c:=fun i=>listed.getD i false) hd hj hlt hpreds hcl hq
     simp only [conflict,Bool.or_eq_false_iff]at this
     refine absurd ?_ (bA this.1.2 n hx')
     rcases List.mem_cons.1 hn with rfl|hn
     ·simp
     simp [hn]
   ·rw [hci];simp
   have h3:decide (j<i)=false:=aw
   rw [h3]
   cases hq:listed.getD j false with
   | false=>rfl
   | true =>
    have:=hfree (c:=fun i=>listed.getD i false) hcl hci hq hd hj hgt
    simp only [conflict,Bool.or_eq_false_iff]at this
    refine absurd ?_ (bA this.2 n hx')
    rcases List.mem_cons.1 hn with rfl|hn
    ·simp
    simp [hn]
  have hsame:fa (bu base (fun i=>listed.getD i false) 0 (l.zip ds) s0) (bu base (fun j=>decide (j<i)) 0 (l.zip ds) s0) :=
   (bw ..).trans (bw ..).symm
  exact⟨hagree,hsame⟩
 have hadd:∀ {listed:Array Bool} {i:Nat} {o:Oper} {d:cn},(l.zip ds)[i]?=some (o,d)→listed.getD i false=false→i<listed.size→dn l (fun i=>listed.getD i false) →
  (bu base (fun i=>listed.getD i false) 0 (l.zip ds) s0).dl (base+i) o.dst d.v d.new d.wr=bu base (fun j=>(listed.setIfInBounds i true).getD j false) 0 (l.zip ds) s0:=by
  intro listed i o d hd hci hlt hcl
  have hmask:(fun j=>(listed.setIfInBounds i true).getD j false)=wQ (fun j=>listed.getD j false) i:=by
   funext j
   rw [eb hlt]
   rfl
  rw [hmask,← vh hd hci fun j o' d' hj hcj hlt=>?_]
  have:=hfree (c:=fun i=>listed.getD i false) hcl hci hcj hd hj hlt
  simp only [conflict,Bool.or_eq_false_iff]at this
  exact⟨fun x hx hx'=>bA this.1.1.1.1.1 x hx (List.mem_append_right _ hx'),fun n hn hn'=>bA this.1.1.1.2 n hn (by simp [hn']),fun n hn hn'=>bA this.1.2 n hn (by simp [mJ hn'])⟩
 have happ:∀ {c:Nat→Bool},(∀ j,j<ds.length→c j=true)→bu base c 0 (l.zip ds) s0=bu base (fun _=>true) 0 (l.zip ds) s0:=by
  intro c hc
  refine S.ext' ((bw ..).trans (bw ..).symm) (fun x=>jP _ 0 s0 s0 rfl rfl fun j o' d' hj _=>?_) (fun n=>jQ _ 0 s0 s0 rfl rfl fun j o' d' hj _=>?_) fun n=>jR _ 0 s0 s0 rfl rfl fun j o' d' hj _=>?_
  all_goals
   rw [Nat.zero_add]
   have h9:=(List.getElem?_eq_some_iff.1 hj).1
   rw [List.length_zip]at h9
   exact hc j ab
 obtain⟨f,hf⟩:∃ f,((List.range ds.length).find? fun i=>!((mz l []).getD ds.length []).contains i)=f:=⟨_,rfl⟩
 rw [hf]at hlast
 have hwait:∀ {i k:Nat},ds.length≤k→k<l.length→i<k→zq l i k∨(f=some i∧AA l i k=true):=fun {i k} h1 h2 h3=>by
  have h4:=hlast (k-ds.length) (List.mem_range.2 ab)
  rw [List.all_eq_true]at h4
  have h5:=h4 i (List.mem_range.2 ab)
  rw [show ds.length+(k-ds.length)=k by omega]at h5
  simp only [Bool.or_eq_true,Bool.and_eq_true,beq_iff_eq,List.contains_iff_mem]at h5
  rcases h5 with h5|h5
  ·exact .inl (hanc _ _ h5)
  exact .inr h5
 have hfm:∀ {i:Nat},f=some i→i<ds.length:=fun {i} h=>by
  rw [← hf]at h
  exact List.mem_range.1 (List.mem_of_find?_eq_some h)
 have hdrop:∀ {k:Nat} {o:Oper},l[k]?=some o→l.drop k=o::l.drop (k+1):=fun {k o} h=>by
  rw [List.drop_eq_getElem_cons (List.getElem?_eq_some_iff.1 h).1,(List.getElem?_eq_some_iff.1 h).2]
 have hup:∀ {listed:Array Bool} {i j:Nat} {o:Oper},l[i]?=some o→(∀ p∈fv o,listed.getD p false=true)→dn l (fun i=>listed.getD i false)→zq l j i→listed.getD j false=true:=fun {listed i j o} hol hp hcl ha=>by
  cases ha with
  | one ho2 hp2=>rw [hol]at ho2;cases ho2;exact hp _ hp2
  | more ho2 hq2 ha=>rw [hol]at ho2;cases ho2;exact hcl.tu ha (hp _ hq2)
 refine wpIn_region_any hm (lu (fun listed b W=>dn l (fun i=>listed.getD i false) ∧
  (
   ((∀ k,ds.length≤k→k<l.length→listed.getD k false=false)∧Inv w0 ps T ρ (bu base (fun i=>listed.getD i false) 0 (l.zip ds) s0) b W) ∨
   (∃ r,0<r∧(∀ k,k<l.length→(listed.getD k false=true↔k<ds.length+r))∧dJ rr C.P l.toArray Q (l.drop (ds.length+r)) b W) ∨
   (∃ r i0 o x y,0<r∧f=some i0∧l[i0]?=some o∧j6 o=some (x,y)∧(∀ k,k<l.length→(listed.getD k false=true↔(k<ds.length+r∧k≠i0)))∧dJ rr C.P l.toArray Q (l.drop (ds.length+r)) (b.put (some y) (b.eval (.tmp x))) W))) ?_ ?_ l.toArray.size _ _ _ ai ?_ ?_)
 ·rintro listed b W i hs ⟨hcl,hI9⟩ hi
  obtain⟨hu,o,ho,hpre⟩:=mem_ready.1 hi
  have hol:l[i]?=some o:=af ho
  have hil:i<l.length:=(List.getElem?_eq_some_iff.1 hol).1
  have hci:listed.getD i false=false:=getD_both hu
  have hsz:i<listed.size:=by rw [hs];simpa using hil
  have hpreds:∀ p∈fv o,listed.getD p false=true:=fun p hp=>by
   obtain⟨e,he,hb,rfl⟩:=hO.1 hp
   exact hpre e he hb
  have hcl2:dn l (fun j=>(listed.setIfInBounds i true).getD j false):=fun j o' p hj hcj hp=>by
   simp only [eb hsz]at hcj ⊢
   by_cases e:p=i
   ·rw [if_pos e]
   rw [if_neg e]
   by_cases e2:j=i
   ·subst e2
    rw [hol]at hj;cases hj
    exact hpreds p hp
   rw [if_neg e2]at hcj
   exact hcl j o' p hj hcj hp
  have run1:∀ {K:Act→World→Prop},dJ rr C.P l.toArray Q (l.drop i) b W→(∀ a' W',dJ rr C.P l.toArray Q (l.drop (i+1)) a' W'→K a' W')→wpOpIn (FW rr) 0 C.P l.toArray Q i K b W:=fun {K} h hk=>by
   unfold wpOpIn
   rw [ho]
   rw [hdrop hol]at h
   unfold dJ wpListIn at h
   dsimp only
   split
   ·rename_i hw
    rw [if_pos hw]at h
    exact Oper.wpIn_mono (fun a' W' q=>hk a' W' q) h
   rename_i hw
   rw [if_neg hw]at h
   exact⟨h.1,hk _ _ h.2⟩
  have run2:∀ {i0 x y:Nat} {o0:Oper} {K:Act→World→Prop},l[i0]?=some o0→j6 o0=some (x,y)→AA l i0 i=true→dJ rr C.P l.toArray Q (l.drop i) (b.put (some y) (b.eval (.tmp x))) W→(∀ a' W',dJ rr C.P l.toArray Q (l.drop (i+1)) (a'.put (some y) (a'.eval (.tmp x))) W'→K a' W')→wpOpIn (FW rr) 0 C.P l.toArray Q i K b W:=fun {i0 x y o0 K} h1 h2 h3 h hk=>by
   unfold AA at h3
   rw [h1,hol]at h3
   dsimp only at h3
   rw [h2]at h3
   simp only [Bool.and_eq_true,Bool.not_eq_true',List.fX]at h3
   obtain⟨⟨⟨g1,g2⟩,g3⟩,g4⟩:=h3
   have g2':o.dst≠some y:=fun e=>g2 (by simp [e])
   have g3':∀ d,o.dst=some d→Operand.tmp x≠.tmp d:=fun d e hh=>by cases hh;exact g3 (by simp [e])
   unfold wpOpIn
   rw [ho]
   rw [hdrop hol]at h
   unfold dJ wpListIn at h
   dsimp only
   rw [wanted_put (ops:=l.toArray) o b (some y) _ (fun d e=>by cases e;exact g1)]at h
   have hev:∀ u,(b.put o.dst u).eval (.tmp x)=b.eval (.tmp x):=fun u=>Act.eval_put g3'
   split
   ·rename_i hw
    rw [if_pos hw]at h
    have h8:=IH g4 g1 g2' hQ h
    refine Fc g4 h8 fun u ds' W' q=>hk _ _ ?_
    have:(({ b with defers:=ds' }:Act).put o.dst u).eval (.tmp x)=b.eval (.tmp x):=(Act.eval_put (a:={ b with defers:=ds' }) g3').trans rfl
    rw [this]
    exact q
   rename_i hw
   rw [if_neg hw]at h
   refine⟨fun _ _=>trivial,hk _ _ ?_⟩
   rw [hev,← Act.put_comm b _ undef fun d e=>by cases e;exact g2']
   exact h.2
  have nextL:∀ {k:Nat},k<l.length→((listed.setIfInBounds i true).getD k false=true↔(k=i∨listed.getD k false=true)):=fun {k} _=>by
   rw [eb hsz]
   split<;>rename_i e<;>simp [e]
  rcases hI9 with ⟨hno,hinv⟩|⟨r,hr0,hls,hw9⟩|⟨r,i0,o0,x,y,hr0,hf0,ho0,hm0,hls,hw9⟩
  ·rcases Nat.lt_or_ge i ds.length with hid|hid
   ·-- one of the first ones
    obtain⟨d,hd⟩:=hzip i o hid hol
    obtain⟨hagree,hsame⟩:=hagr hd hci hpreds hcl
    have hfin:=hst i o d hd _ b W (fun a' w'=>dn l (fun j=>(listed.setIfInBounds i true).getD j false)∧(∀ k,ds.length≤k→k<l.length→(listed.setIfInBounds i true).getD k false=false)∧Inv w0 ps T ρ (bu base (fun j=>(listed.setIfInBounds i true).getD j false) 0 (l.zip ds) s0) a' w') hsame hagree hinv fun a' W' h=>by
     refine⟨hcl2,fun k h1 h2=>?_,by rw [← hadd hd hci hsz hcl];exact h⟩
     rw [eb hsz,if_neg ab]
     exact hno k h1 h2
    unfold wpOpIn
    rw [ho]
    dsimp only
    split
    ·rename_i hw;rw [if_pos hw]at hfin;exact Oper.wpIn_mono (fun _ _ h=>⟨h.1,.inl h.2⟩) hfin
    rename_i hw;rw [if_neg hw]at hfin;exact⟨fun _ _=>trivial,hfin.1,.inl hfin.2⟩
   -- the first of the last ones
   have him:i=ds.length:=by
    rcases Nat.lt_or_ge ds.length i with h|h
    ·exfalso
     rcases hwait hid hil h with ha|⟨ha,_⟩
     ·have:=hup hol hpreds hcl ha
      rw [hno _ (Nat.le_refl _) ab]at this
      cases this
     exact absurd (hfm ha) ab
    omega
   subst him
   have hothers:∀ j,j<ds.length→f≠some j→listed.getD j false=true:=fun j hj hne=>by
    rcases hwait hid hil hj with ha|⟨ha,_⟩
    ·exact hup hol hpreds hcl ha
    exact absurd ha hne
   have hset:∀ k,k<l.length→((listed.setIfInBounds ds.length true).getD k false=true↔(k=ds.length∨listed.getD k false=true)):=fun k hk=>nextL hk
   by_cases hall9:∀ j,j<ds.length→listed.getD j false=true
   ·rw [happ hall9]at hinv
    refine run1 (hK _ _ hinv) fun a' W' q=>⟨hcl2,.inr (.inl ⟨1,ab,fun k hk=>?_,q⟩)⟩
    rw [hset k hk]
    constructor
    ·rintro(h|h)
     ·omega
     rcases Nat.lt_or_ge k ds.length with h2|h2
     ·omega
     rw [hno k h2 hk]at h;cases h
    intro h
    rcases Nat.lt_or_ge k ds.length with h2|h2
    ·exact .inr (hall9 k h2)
    exact .inl ab
   obtain⟨i0,hi0⟩:∃ i0,i0<ds.length∧listed.getD i0 false=false:=by
    apply Classical.byContradiction
    intro hh
    refine hall9 fun j hj=>?_
    cases hb:listed.getD j false with
    | true=>rfl
    | false=>exact absurd ⟨j,hj,hb⟩ hh
   have hf0:f=some i0:=by
    apply Classical.byContradiction
    intro hh
    have:=hothers i0 hi0.1 hh
    rw [hi0.2]at this;cases this
   have hil0:i0<l.length:=ab
   have ho0:l[i0]?=some l[i0]:=List.getElem?_eq_getElem hil0
   obtain⟨d0,hd0⟩:=hzip i0 _ hi0.1 ho0
   have hwn:AA l i0 ds.length=true:=by
    rcases hwait hid hil hi0.1 with ha|⟨_,ha⟩
    ·have:=hup hol hpreds hcl ha
     rw [hi0.2]at this;cases this
    exact ha
   obtain⟨x,y,hm0⟩:∃ x y,j6 l[i0]=some (x,y):=by
    have h3:=hwn
    unfold AA at h3
    rw [ho0,hol]at h3
    dsimp only at h3
    cases hq:j6 l[i0]with
    | none=>rw [hq]at h3;cases h3
    | some e=>exact⟨e.1,e.2,rfl⟩
   have hpr0:∀ p∈fv l[i0],listed.getD p false=true:=fun p hp=>by
    have:=ik hback ho0 hp
    refine hothers p ab fun e=>?_
    rw [hf0]at e
    cases e
    omega
   obtain⟨hagree,hsame⟩:=hagr hd0 hi0.2 hpr0 hcl
   have hsz0:i0<listed.size:=by rw [hs];simpa using hil0
   have hfin:=hst i0 _ d0 hd0 _ b W (fun a' W'=>dJ rr C.P l.toArray Q (l.drop ds.length) a' W') hsame hagree hinv fun a' W' h=>by
    rw [hadd hd0 hi0.2 hsz0 hcl,happ fun j hj=>?_]at h
    ·exact hK _ _ h
    rw [eb hsz0]
    split
    ·rfl
    rename_i e
    exact hothers j hj fun e2=>e (by rw [hf0]at e2;cases e2;rfl)
   rw [if_pos (mn hm0 _),u9 hm0]at hfin
   refine run2 ho0 hm0 hwn hfin fun a' W' q=>⟨hcl2,.inr (.inr ⟨1,i0,_,x,y,ab,hf0,ho0,hm0,fun k hk=>?_,q⟩)⟩
   rw [hset k hk]
   constructor
   ·rintro(h|h)
    ·omega
    rcases Nat.lt_or_ge k ds.length with h2|h2
    ·exact⟨ab,fun e=>by rw [e,hi0.2]at h;cases h⟩
    rw [hno k h2 hk]at h;cases h
   rintro⟨h,hne⟩
   rcases Nat.lt_or_ge k ds.length with h2|h2
   ·exact .inr (hothers k h2 fun e=>hne (by rw [hf0]at e;cases e;rfl))
   exact .inl ab
  ·-- among the last ones
   have hir:i=ds.length+r:=by
    have h1:¬ i<ds.length+r:=fun h=>by rw [(hls i hil).2 h]at hci;cases hci
    rcases Nat.lt_or_ge (ds.length+r) i with h|h
    ·exfalso
     rcases hwait ab hil h with ha|⟨ha,_⟩
     ·have:=(hls _ ab).1 (hup hol hpreds hcl ha)
      omega
     exact absurd (hfm ha) ab
    omega
   subst hir
   refine run1 hw9 fun a' W' q=>⟨hcl2,.inr (.inl ⟨r+1,ab,fun k hk=>?_,q⟩)⟩
   rw [nextL hk,hls k hk]
   omega
  by_cases hi0:i=i0
  ·subst hi0
   rw [ho0]at hol
   cases hol
   unfold wpOpIn
   rw [ho]
   dsimp only
   rw [if_pos (mn hm0 _),u9 hm0]
   refine⟨hcl2,.inr (.inl ⟨r,hr0,fun k hk=>?_,hw9⟩)⟩
   rw [nextL hk,hls k hk]
   have:=hfm hf0
   omega
  have hir:i=ds.length+r:=by
   have h1:¬ i<ds.length+r:=fun h=>by rw [(hls i hil).2 ⟨h,hi0⟩]at hci;cases hci
   rcases Nat.lt_or_ge (ds.length+r) i with h|h
   ·exfalso
    rcases hwait ab hil h with ha|⟨ha,_⟩
    ·have:=(hls _ ab).1 (hup hol hpreds hcl ha)
     omega
    exact absurd (hfm ha) ab
   omega
  subst hir
  have hi0m:=hfm hf0
  have hwn:AA l i0 (ds.length+r)=true:=by
   rcases hwait ab hil (by omega:i0<ds.length+r)with ha|⟨_,ha⟩
   ·have:=(hls _ ab).1 (hup hol hpreds hcl ha)
    omega
   exact ha
  refine run2 ho0 hm0 hwn hw9 fun a' W' q=>⟨hcl2,.inr (.inr ⟨r+1,i0,o0,x,y,ab,hf0,ho0,hm0,fun k hk=>?_,q⟩)⟩
  rw [nextL hk,hls k hk]
  omega
 ·rintro listed b W hs ⟨hcl,hI9⟩ hr
  have hall:∀ i,i<l.length→listed.getD i false=true:=by
   intro i
   induction i using Nat.strongRecOn with
   | ind i ih =>
    intro hi
    cases hb:listed.getD i false with
    | true=>rfl
    | false =>
     exfalso
     have hm:i∈Region.ready .any l.toArray listed:=by
      refine mem_ready.2 ⟨getD_in (by rw [hs];simpa using hi) hb,l[i],by simp [hi],fun e he hbd=>?_⟩
      have:=ik hback (List.getElem?_eq_getElem hi) (hO.2 ⟨e,he,hbd,rfl⟩)
      rw [Nat.zero_add]at this
      exact ih e.on this ab
     rw [hr]at hm
     cases hm
  rcases hI9 with ⟨hno,_⟩|⟨r,_,hls,hq⟩|⟨r,i0,o0,x,y,_,hf0,ho0,_,hls,_⟩
  ·have:=hall ds.length hlen
   rw [hno _ (Nat.le_refl _) hlen]at this;cases this
  ·rw [List.drop_of_length_le]at hq
   ·exact hq
   rcases Nat.lt_or_ge (ds.length+r) l.length with h|h
   ·have:=(hls _ h).1 (hall _ h)
    omega
   exact h
  have h1:=(List.getElem?_eq_some_iff.1 ho0).1
  exact absurd rfl ((hls _ h1).1 (hall _ h1)).2
 ·rw [Array.toList_replicate];exact Nat.le_trans (List.length_filter_le _ _) ai
 have hz:(fun i=>(Array.replicate l.toArray.size false).getD i false)=fun _=>false:=funext fun i=>getD_replicate_false _ _
 refine⟨(by rw [hz];exact fun j o p _ hc _=>nomatch hc),.inl ⟨fun k _ _=>getD_replicate_false _ _,?_⟩⟩
 have:bu base (fun i=>(Array.replicate l.toArray.size false).getD i false) 0 (l.zip ds) s0=s0:=by
  rw [hz,ij]
 rw [this]
 exact hI.step ((Below.refl _ _).drew)
theorem mc{rr:Option Nat}{P:Program}{o:Oper}{x y:Nat}{b:Act}{W:World}{K:Act→World→Prop}(hm:jh o=some (x,y)):o.wpIn (FW rr) 0 P b W K Q↔∃ u,Cr o (b.eval (.tmp x))=some u∧K (b.put (some y) u) W:=by
 obtain⟨dst,op,ty,pos,aft,g⟩:=o
 unfold jh at hm
 split at hm
 ·rename_i hg ho hd
  cases hm
  simp only at hg ho hd
  subst hg;subst ho;subst hd
  unfold Oper.wpIn Cr
  rw [Oper.semAt_eq _ _ _ (by intro c e;cases e)]
  simp only [execOp]
  exact⟨fun h=>⟨_,rfl,h.2⟩,fun⟨u,hu,h⟩=>by cases hu;exact⟨fun _ _=>trivial,h⟩⟩
 ·rename_i jx jj jy hg ho hd
  cases hm
  simp only at hg ho hd
  subst hg;subst ho;subst hd
  unfold Oper.wpIn Cr
  rw [Oper.semAt_eq _ _ _ (by intro c e;cases e)]
  simp only [execOp,Instr.extract]
  generalize b.eval (.tmp x)=v
  cases v
  case tuple vs =>
   cases hj:vs[jj]? with
   | none=>simp only [hj];exact⟨fun h=>(h.2:False).elim,fun⟨u,hu,h⟩=>nomatch hu⟩
   | some z=>simp only [hj];exact⟨fun h=>⟨_,rfl,h.2⟩,fun⟨u,hu,h⟩=>by cases hu;exact⟨fun _ _=>trivial,h⟩⟩
  all_goals exact⟨fun h=>(h.2:False).elim,fun⟨u,hu,h⟩=>nomatch hu⟩
 cases hm
theorem gy{o:Oper}{x y:Nat}(hm:jh o=some (x,y))(l:Nat→Option Bool):Region.wanted o l=true:=by
 unfold jh at hm
 split at hm
 ·rename_i hg _ _
  simp [Region.wanted,hg]
 ·rename_i hg _ _
  simp [Region.wanted,hg]
 cases hm
theorem tK{rr:Option Nat}{P:Program}{all:Array Oper}{o:Oper}{x y:Nat}(ho:jh o=some (x,y))(post:List Oper):∀ (pre:List Oper)(b:Act)(W:World),(∀ p∈pre,apart p o=true)→dJ rr P all Q (pre++o::post) b W→∃ u,Cr o (b.eval (.tmp x))=some u∧dJ rr P all Q (pre++post) (b.put (some y) u) W
 | [],b,W,_,h=>by
  unfold dJ at h
  rw [List.nil_append,wpListIn,if_pos (gy ho _),mc ho]at h
  exact h
 | p::pre,b,W,hp,h=>by
  have h1:=hp p (List.mem_cons_self ..)
  unfold apart at h1
  split at h1
  ·rename_i x1 y1 x2 y2 e1 e2
   rw [ho]at e2
   cases e2
   simp only [Bool.and_eq_true,bne_iff_ne,ne_eq]at h1
   obtain⟨⟨g1,g2⟩,g3⟩:=h1
   unfold dJ at h
   rw [List.cons_append,wpListIn,if_pos (gy e1 _),mc e1]at h
   obtain⟨u1,hu1,h⟩:=h
   obtain⟨u,hu,h⟩:=tK ho post pre _ W (fun q hq=>hp q (List.mem_cons_of_mem _ hq)) h
   rw [Act.eval_put (fun d e=>by cases e;exact fun h=>g1 (by injection h))]at hu
   refine⟨u,hu,?_⟩
   unfold dJ
   rw [List.cons_append,wpListIn,if_pos (gy e1 _),mc e1]
   refine⟨u1,?_,?_⟩
   ·rw [Act.eval_put (fun d e=>by cases e;exact fun h=>g2 (by injection h))]
    exact hu1
   rw [← Act.put_comm b u1 u fun d e=>by cases e;exact fun h=>g3 (by injection h with h;exact h.symm)]
   exact h
  cases h1
theorem wV{rr:Option Nat}{P:Program}{all:Array Oper}{i:Nat}{K K':Act→World→Prop}{a:Act}{W:World}(h:∀ a w,K a w→K' a w)(hh:wpOpIn (FW rr) 0 P all Q i K a W):wpOpIn (FW rr) 0 P all Q i K' a W:=by
 unfold wpOpIn at *
 cases ho:all[i]? with
 | none=>simp only [ho]at hh ⊢;exact h _ _ hh
 | some o =>
  simp only [ho]at hh ⊢
  split
  ·rename_i hw;rw [if_pos hw]at hh;exact Oper.wpIn_mono h hh
  rename_i hw;rw [if_neg hw]at hh;exact⟨hh.1,h _ _ hh.2⟩
theorem AO{β:Type}(l:List β)(m:Nat):(List.range' m (l.length-m)).filterMap (fun k=>l[k]?)=l.drop m:=by
 generalize hn:l.length-m=n
 induction n generalizing m with
 | zero=>rw [List.drop_of_length_le ab];rfl
 | succ n ih =>
  have hm:m<l.length:=ab
  rw [List.range'_succ,List.filterMap_cons,List.getElem?_eq_getElem hm,ih (m+1) ab,List.drop_eq_getElem_cons hm]
theorem Ad{rr:Option Nat}{id:Nat}{l:List Oper}{ds:List cn}{base:Nat}{s0:S}{a:Act}{W:World}(hm:C.P.follows .mixedOrders=true)(hQ:∀ c a w,¬ Q (.panic c) a w)(hord:qo base l ds=true)
 (hst:∀ (i:Nat) (o:Oper) (d:cn),(l.zip ds)[i]?=some (o,d)→qq C rr w0 ps T ρ Q l.toArray (base+i) o d (bu base (fun j=>decide (j<i)) 0 (l.zip ds) s0)) (hI:Inv w0 ps T ρ s0 a W)
 (hK:∀ a' W',Inv w0 ps T ρ (bu base (fun _=>true) 0 (l.zip ds) s0) a' W'→dJ rr C.P l.toArray Q (l.drop ds.length) a' W'):jd rr C.P (Code.region id l.toArray true) Q a W:=by
 simp only [qo,Bool.and_eq_true,decide_eq_true_eq]at hord
 obtain⟨⟨⟨⟨hback,hlen⟩,hpairs⟩,hfirst⟩,hlast⟩:=hord
 rw [List.all_eq_true]at hfirst hlast
 have hanc:∀ j i,i∈(mz l []).getD j []→zq l i j:=pW l l [] ai ai
 have hzip:∀ i o,i<ds.length→l[i]?=some o→∃ d,(l.zip ds)[i]?=some (o,d):=fun i o hid ho=>by
  have h1:=(List.getElem?_eq_some_iff.1 ho).1
  exact⟨ds[i]'ab,List.getElem?_zip_eq_some.2 ⟨ho,List.getElem?_eq_getElem _⟩⟩
 have hzl:∀ i o d,(l.zip ds)[i]?=some (o,d)→l[i]?=some o:=fun i o d h=>(List.getElem?_zip_eq_some.1 h).1
 have hfree:∀ {c:Nat→Bool} {i j:Nat} {o o':Oper} {d d':cn},dn l c→c i=false→c j=true→(l.zip ds)[i]?=some (o,d)→(l.zip ds)[j]?=some (o',d')→i<j→conflict base i j o d o' d'=false:=fun {c i j o o' d d'} hc hi hj ho ho' hlt=>by
  cases hq:conflict base i j o d o' d' with
  | false=>rfl
  | true =>
   have:=eC hpairs (i:=i) (j:=j) ho ho' (af hlt) (af hq)
   have h2:=hc.tu (hanc _ _ (af this)) hj
   rw [hi]at h2;cases h2
 have hbefore:∀ {i j:Nat} {o o':Oper} {d d':cn} {c:Nat→Bool},(l.zip ds)[i]?=some (o,d)→(l.zip ds)[j]?=some (o',d')→j<i→(∀ p∈fv o,c p=true)→dn l c→c j=false→conflict base j i o' d' o d=false:=fun {i j o o' d d' c} ho ho' hlt hp hc hj=>by
  cases hq:conflict base j i o' d' o d with
  | false=>rfl
  | true =>
   have:=hanc _ _ (by simpa using eC hpairs (i:=j) (j:=i) ho' ho (af hlt) (af hq))
   exfalso
   have key:c j=true:=by
    cases this with
    | one ho2 hp2=>rw [hzl _ _ _ ho]at ho2;cases ho2;exact hp _ hp2
    | more ho2 hq2 ha=>rw [hzl _ _ _ ho]at ho2;cases ho2;exact hc.tu ha (hp _ hq2)
   rw [hj]at key;cases key
 let c0:Array Bool→Nat→Bool:=fun listed i=>listed.getD i false
 have hagr:∀ {listed:Array Bool} {i:Nat} {o:Oper} {d:cn},(l.zip ds)[i]?=some (o,d)→listed.getD i false=false→(∀ p∈fv o,listed.getD p false=true)→dn l (fun i=>listed.getD i false) →
  eI d.slots ((base+i)::d.names) ((base+i)::d.snames) (bu base (fun i=>listed.getD i false) 0 (l.zip ds) s0) (bu base (fun j=>decide (j<i)) 0 (l.zip ds) s0)∧fa (bu base (fun i=>listed.getD i false) 0 (l.zip ds) s0) (bu base (fun j=>decide (j<i)) 0 (l.zip ds) s0):=by
  intro listed i o d hd hci hpreds hcl
  have hagree:eI d.slots ((base+i)::d.names) ((base+i)::d.snames) (bu base (fun i=>listed.getD i false) 0 (l.zip ds) s0) (bu base (fun j=>decide (j<i)) 0 (l.zip ds) s0):=by
   refine⟨fun x hx=>jP _ 0 s0 s0 rfl rfl fun j o' d' hj hx'=>?_,fun n hn=>jQ _ 0 s0 s0 rfl rfl fun j o' d' hj hx'=>?_,fun n hn=>jR _ 0 s0 s0 rfl rfl fun j o' d' hj hx'=>?_⟩
   ·rw [Nat.zero_add]
    rcases Nat.lt_trichotomy j i with hlt|rfl|hgt
    ·have h3:decide (j<i)=true:=af hlt
     rw [h3]
     cases hq:listed.getD j false with
     | true=>rfl
     | false =>
      have:=hbefore (c:=fun i=>listed.getD i false) hd hj hlt hpreds hcl hq
      simp only [conflict,Bool.or_eq_false_iff]at this
      exact absurd (List.mem_append_left _ hx) (bA this.1.1.1.1.1 x hx')
    ·rw [hci];simp
    have h3:decide (j<i)=false:=aw
    rw [h3]
    cases hq:listed.getD j false with
    | false=>rfl
    | true =>
     have:=hfree (c:=fun i=>listed.getD i false) hcl hci hq hd hj hgt
     simp only [conflict,Bool.or_eq_false_iff]at this
     exact absurd hx (bA this.1.1.1.1.2 x hx')
   ·rw [Nat.zero_add]at hx' ⊢
    rcases Nat.lt_trichotomy j i with hlt|rfl|hgt
    ·have h3:decide (j<i)=true:=af hlt
     rw [h3]
     cases hq:listed.getD j false with
     | true=>rfl
     | false =>
      have:=hbefore (c:=fun i=>listed.getD i false) hd hj hlt hpreds hcl hq
      simp only [conflict,Bool.or_eq_false_iff]at this
      refine absurd ?_ (bA this.1.1.1.2 n hx')
      rcases List.mem_cons.1 hn with rfl|hn
      ·simp
      simp [hn]
    ·rw [hci];simp
    have h3:decide (j<i)=false:=aw
    rw [h3]
    cases hq:listed.getD j false with
    | false=>rfl
    | true =>
     have:=hfree (c:=fun i=>listed.getD i false) hcl hci hq hd hj hgt
     simp only [conflict,Bool.or_eq_false_iff]at this
     refine absurd ?_ (bA this.1.1.2 n hx')
     rcases List.mem_cons.1 hn with rfl|hn
     ·simp
     simp [hn]
   rw [Nat.zero_add]at hx' ⊢
   rcases Nat.lt_trichotomy j i with hlt|rfl|hgt
   ·have h3:decide (j<i)=true:=af hlt
    rw [h3]
    cases hq:listed.getD j false with
    | true=>rfl
    | false =>
     have:=hbefore (c:=fun i=>listed.getD i false) hd hj hlt hpreds hcl hq
     simp only [conflict,Bool.or_eq_false_iff]at this
     refine absurd ?_ (bA this.1.2 n hx')
     rcases List.mem_cons.1 hn with rfl|hn
     ·simp
     simp [hn]
   ·rw [hci];simp
   have h3:decide (j<i)=false:=aw
   rw [h3]
   cases hq:listed.getD j false with
   | false=>rfl
   | true =>
    have:=hfree (c:=fun i=>listed.getD i false) hcl hci hq hd hj hgt
    simp only [conflict,Bool.or_eq_false_iff]at this
    refine absurd ?_ (bA this.2 n hx')
    rcases List.mem_cons.1 hn with rfl|hn
    ·simp
    simp [hn]
  have hsame:fa (bu base (fun i=>listed.getD i false) 0 (l.zip ds) s0) (bu base (fun j=>decide (j<i)) 0 (l.zip ds) s0) :=
   (bw ..).trans (bw ..).symm
  exact⟨hagree,hsame⟩
 have hadd:∀ {listed:Array Bool} {i:Nat} {o:Oper} {d:cn},(l.zip ds)[i]?=some (o,d)→listed.getD i false=false→i<listed.size→dn l (fun i=>listed.getD i false) →
  (bu base (fun i=>listed.getD i false) 0 (l.zip ds) s0).dl (base+i) o.dst d.v d.new d.wr=bu base (fun j=>(listed.setIfInBounds i true).getD j false) 0 (l.zip ds) s0:=by
  intro listed i o d hd hci hlt hcl
  have hmask:(fun j=>(listed.setIfInBounds i true).getD j false)=wQ (fun j=>listed.getD j false) i:=by
   funext j
   rw [eb hlt]
   rfl
  rw [hmask,← vh hd hci fun j o' d' hj hcj hlt=>?_]
  have:=hfree (c:=fun i=>listed.getD i false) hcl hci hcj hd hj hlt
  simp only [conflict,Bool.or_eq_false_iff]at this
  exact⟨fun x hx hx'=>bA this.1.1.1.1.1 x hx (List.mem_append_right _ hx'),fun n hn hn'=>bA this.1.1.1.2 n hn (by simp [hn']),fun n hn hn'=>bA this.1.2 n hn (by simp [mJ hn'])⟩
 have happ:∀ {c:Nat→Bool},(∀ j,j<ds.length→c j=true)→bu base c 0 (l.zip ds) s0=bu base (fun _=>true) 0 (l.zip ds) s0:=by
  intro c hc
  refine S.ext' ((bw ..).trans (bw ..).symm) (fun x=>jP _ 0 s0 s0 rfl rfl fun j o' d' hj _=>?_) (fun n=>jQ _ 0 s0 s0 rfl rfl fun j o' d' hj _=>?_) fun n=>jR _ 0 s0 s0 rfl rfl fun j o' d' hj _=>?_
  all_goals
   rw [Nat.zero_add]
   have h9:=(List.getElem?_eq_some_iff.1 hj).1
   rw [List.length_zip]at h9
   exact hc j ab
 have hdrop:∀ {k:Nat} {o:Oper},l[k]?=some o→l.drop k=o::l.drop (k+1):=fun {k o} h=>by
  rw [List.drop_eq_getElem_cons (List.getElem?_eq_some_iff.1 h).1,(List.getElem?_eq_some_iff.1 h).2]
 have hup:∀ {listed:Array Bool} {i j:Nat} {o:Oper},l[i]?=some o→(∀ p∈fv o,listed.getD p false=true)→dn l (fun i=>listed.getD i false)→zq l j i→listed.getD j false=true:=fun {listed i j o} hol hp hcl ha=>by
  cases ha with
  | one ho2 hp2=>rw [hol]at ho2;cases ho2;exact hp _ hp2
  | more ho2 hq2 ha=>rw [hol]at ho2;cases ho2;exact hcl.tu ha (hp _ hq2)
 have hw1:∀ i,i<ds.length→zq l i ds.length:=fun i hi=>hanc _ _ (by simpa using hfirst i (List.mem_range.2 hi))
 have hw2:∀ k,ds.length<k→k<l.length→(∀ i,i≤ds.length→zq l i k)∧(∃ o x y,l[k]?=some o∧jh o=some (x,y))∧∀ j,ds.length<j→j<k→zq l j k∨∃ o o',l[j]?=some o∧l[k]?=some o'∧apart o o'=true:=fun k h1 h2=>by
  have h3:=hlast k (List.mem_range.2 h2)
  rw [Bool.or_eq_true,decide_eq_true_eq]at h3
  have h3:=h3.resolve_left ab
  simp only [Bool.and_eq_true,List.all_eq_true,List.mem_range]at h3
  obtain⟨⟨g1,g2⟩,g3⟩:=h3
  refine⟨fun i hi=>hanc _ _ (by simpa using g1 i ab),?_,fun j hj1 hj2=>?_⟩
  ·cases ho:l[k]? with
   | none=>rw [ho]at g2;cases g2
   | some o =>
    rw [ho]at g2
    cases hp:jh o with
    | none=>simp [hp]at g2
    | some e=>exact⟨o,e.1,e.2,rfl,hp⟩
  have g4:=g3 j hj2
  rw [Bool.or_eq_true,Bool.or_eq_true,decide_eq_true_eq]at g4
  rcases g4 with (g4|g4)|g4
  ·omega
  ·exact .inl (hanc _ _ (af g4))
  split at g4
  ·rename_i o o' e1 e2
   exact .inr ⟨o,o',e1,e2,g4⟩
  cases g4
 refine wpIn_region_any hm (lu (fun listed b W=>dn l (fun i=>listed.getD i false) ∧
  (
   ((∀ k,ds.length≤k→k<l.length→listed.getD k false=false)∧Inv w0 ps T ρ (bu base (fun i=>listed.getD i false) 0 (l.zip ds) s0) b W) ∨
   (∃ L:List Nat,L.Pairwise (·<·)∧(∀ k,k≤ds.length→listed.getD k false=true)∧(∀ k,k<l.length→(listed.getD k false=false↔k∈L))∧(∀ k∈L,k<l.length)∧dJ rr C.P l.toArray Q (L.filterMap fun k=>l[k]?) b W))) ?_ ?_ l.toArray.size _ _ _ ai ?_ ?_)
 ·rintro listed b W i hs ⟨hcl,hI9⟩ hi
  obtain⟨hu,o,ho,hpre⟩:=mem_ready.1 hi
  have hol:l[i]?=some o:=af ho
  have hil:i<l.length:=(List.getElem?_eq_some_iff.1 hol).1
  have hci:listed.getD i false=false:=getD_both hu
  have hsz:i<listed.size:=by rw [hs];simpa using hil
  have hpreds:∀ p∈fv o,listed.getD p false=true:=fun p hp=>by
   obtain⟨e,he,hb,rfl⟩:=hO.1 hp
   exact hpre e he hb
  have hcl2:dn l (fun j=>(listed.setIfInBounds i true).getD j false):=fun j o' p hj hcj hp=>by
   simp only [eb hsz]at hcj ⊢
   by_cases e:p=i
   ·rw [if_pos e]
   rw [if_neg e]
   by_cases e2:j=i
   ·subst e2
    rw [hol]at hj;cases hj
    exact hpreds p hp
   rw [if_neg e2]at hcj
   exact hcl j o' p hj hcj hp
  rcases hI9 with ⟨hno,hinv⟩|⟨L,hLp,hL0,hL1,hL2,hw9⟩
  ·rcases Nat.lt_or_ge i ds.length with hid|hid
   ·obtain⟨d,hd⟩:=hzip i o hid hol
    obtain⟨hagree,hsame⟩:=hagr hd hci hpreds hcl
    have hfin:=hst i o d hd _ b W (fun a' w'=>dn l (fun j=>(listed.setIfInBounds i true).getD j false)∧(∀ k,ds.length≤k→k<l.length→(listed.setIfInBounds i true).getD k false=false)∧Inv w0 ps T ρ (bu base (fun j=>(listed.setIfInBounds i true).getD j false) 0 (l.zip ds) s0) a' w') hsame hagree hinv fun a' W' h=>by
     refine⟨hcl2,fun k h1 h2=>?_,by rw [← hadd hd hci hsz hcl];exact h⟩
     rw [eb hsz,if_neg ab]
     exact hno k h1 h2
    unfold wpOpIn
    rw [ho]
    dsimp only
    split
    ·rename_i hw;rw [if_pos hw]at hfin;exact Oper.wpIn_mono (fun _ _ h=>⟨h.1,.inl h.2⟩) hfin
    rename_i hw;rw [if_neg hw]at hfin;exact⟨fun _ _=>trivial,hfin.1,.inl hfin.2⟩
   have him:i=ds.length:=by
    rcases Nat.lt_or_ge ds.length i with h|h
    ·exfalso
     have:=hup hol hpreds hcl ((hw2 i h hil).1 ds.length (Nat.le_refl _))
     rw [hno _ (Nat.le_refl _) ab]at this
     cases this
    omega
   subst him
   have hall9:∀ j,j<ds.length→listed.getD j false=true:=fun j hj=>hup hol hpreds hcl (hw1 j hj)
   rw [happ hall9]at hinv
   have h:=hK _ _ hinv
   rw [hdrop hol]at h
   have hfin:wpOpIn (FW rr) 0 C.P l.toArray Q ds.length (fun a' W'=>dJ rr C.P l.toArray Q (l.drop (ds.length+1)) a' W') b W:=by
    unfold wpOpIn
    rw [ho]
    unfold dJ wpListIn at h
    dsimp only
    split
    ·rename_i hw
     rw [if_pos hw]at h
     exact h
    rename_i hw
    rw [if_neg hw]at h
    exact h
   refine wV (fun a' W' q=>⟨hcl2,.inr ⟨List.range' (ds.length+1) (l.length-(ds.length+1)),List.pairwise_lt_range',fun k hk=>?_,fun k hk=>?_,fun k hk=>?_,?_⟩⟩) hfin
   ·rw [eb hsz]
    split
    ·rfl
    exact hall9 k ab
   ·rw [eb hsz,List.mem_range'_1]
    split
    ·rename_i e
     exact⟨(fun h=>nomatch h),fun h=>ab⟩
    rename_i e
    constructor
    ·intro h
     rcases Nat.lt_or_ge k ds.length with h2|h2
     ·rw [hall9 k h2]at h;cases h
     omega
    intro h
    exact hno k ab hk
   ·rw [List.mem_range'_1]at hk
    omega
   have e:(List.range' (ds.length+1) (l.length-(ds.length+1))).filterMap (fun k=>l[k]?)=l.drop (ds.length+1):=by
    apply AO
   rw [e]
   exact q
  have hiL:i∈L:=(hL1 i hil).1 hci
  have hid:ds.length<i:=by
   rcases Nat.lt_or_ge ds.length i with h|h
   ·exact h
   rw [hL0 i h]at hci;cases hci
  obtain⟨g1,⟨o9,x,y,ho9,hpu⟩,g3⟩:=hw2 i hid hil
  rw [hol]at ho9
  cases ho9
  obtain⟨L1,L2,rfl⟩:=List.append_of_mem hiL
  rw [List.filterMap_append,List.filterMap_cons,hol]at hw9
  have hord9:=List.pairwise_append.1 hLp
  have hlt:∀ j∈L1,j<i:=fun j hj=>hord9.2.2 j hj i (List.mem_cons_self ..)
  have hgt:∀ j∈L2,i<j:=fun j hj=>(List.pairwise_cons.1 hord9.2.1).1 j hj
  obtain⟨u,hu9,hw9⟩:=tK hpu _ _ b W (fun p hp=>by
   obtain⟨j,hj,hjp⟩:=List.mem_filterMap.1 hp
   have hjl:=hL2 j (List.mem_append_left _ hj)
   have hju:listed.getD j false=false:=(hL1 j hjl).2 (List.mem_append_left _ hj)
   have hjd:ds.length<j:=by
    rcases Nat.lt_or_ge ds.length j with h|h
    ·exact h
    rw [hL0 j h]at hju;cases hju
   rcases g3 j hjd (hlt j hj)with ha|⟨o1,o2,e1,e2,hap⟩
   ·have:=hup hol hpreds hcl ha
    rw [hju]at this;cases this
   rw [hjp]at e1;cases e1
   rw [hol]at e2;cases e2
   exact hap) hw9
  unfold wpOpIn
  rw [ho]
  dsimp only
  rw [if_pos (gy hpu _),mc hpu]
  refine⟨u,hu9,hcl2,.inr ⟨L1++L2,?_,fun k hk=>?_,fun k hk=>?_,fun k hk=>?_,?_⟩⟩
  ·exact hLp.sublist (List.Sublist.append_left (List.sublist_cons_self ..) _)
  ·rw [eb hsz]
   split
   ·rfl
   exact hL0 k hk
  ·rw [eb hsz]
   have h5:=hL1 k hk
   split
   ·rename_i e
    subst e
    refine⟨(fun h=>nomatch h),fun h=>?_⟩
    rcases List.mem_append.1 h with h|h
    ·exact absurd (hlt _ h) (Nat.lt_irrefl _)
    exact absurd (hgt _ h) (Nat.lt_irrefl _)
   rename_i e
   rw [h5]
   simp [e]
  ·refine hL2 k ?_
   rcases List.mem_append.1 hk with h|h
   ·exact List.mem_append_left _ h
   exact List.mem_append_right _ (List.mem_cons_of_mem _ h)
  rw [List.filterMap_append]
  exact hw9
 ·rintro listed b W hs ⟨hcl,hI9⟩ hr
  have hall:∀ i,i<l.length→listed.getD i false=true:=by
   intro i
   induction i using Nat.strongRecOn with
   | ind i ih =>
    intro hi
    cases hb:listed.getD i false with
    | true=>rfl
    | false =>
     exfalso
     have hm:i∈Region.ready .any l.toArray listed:=by
      refine mem_ready.2 ⟨getD_in (by rw [hs];simpa using hi) hb,l[i],by simp [hi],fun e he hbd=>?_⟩
      have:=ik hback (List.getElem?_eq_getElem hi) (hO.2 ⟨e,he,hbd,rfl⟩)
      rw [Nat.zero_add]at this
      exact ih e.on this ab
     rw [hr]at hm
     cases hm
  rcases hI9 with ⟨hno,_⟩|⟨L,_,_,hL1,hL2,hq⟩
  ·have:=hall ds.length hlen
   rw [hno _ (Nat.le_refl _) hlen]at this;cases this
  rcases L with _|⟨k,L⟩
  ·exact hq
  have h1:=hL2 k (List.mem_cons_self ..)
  have h2:=(hL1 k h1).2 (List.mem_cons_self ..)
  rw [hall k h1]at h2
  cases h2
 ·rw [Array.toList_replicate];exact Nat.le_trans (List.length_filter_le _ _) ai
 have hz:(fun i=>(Array.replicate l.toArray.size false).getD i false)=fun _=>false:=funext fun i=>getD_replicate_false _ _
 refine⟨(by rw [hz];exact fun j o p _ hc _=>nomatch hc),.inl ⟨fun k _ _=>getD_replicate_false _ _,?_⟩⟩
 have:bu base (fun i=>(Array.replicate l.toArray.size false).getD i false) 0 (l.zip ds) s0=s0:=by
  rw [hz,ij]
 rw [this]
 exact hI.step ((Below.refl _ _).drew)
end
end SX
namespace SX
def S.wk(s:S)(sh:List Sh)(kn:List (Nat×List Nat×Value)):S:={ s with sh:=sh,kn:=kn }
theorem mE(s:S)(sh:List Sh)(kn:List (Nat×List Nat×Value))(nm:Nat)(d:Option Tmp)(v:V)(new:Option ak)(wr:Option (Nat×ak)):(s.wk sh kn).dl nm d v new wr=(s.dl nm d v new wr).wk sh kn:=by
 cases wr<;>cases new<;>cases d<;>rfl
theorem kC(base:Nat)(c:Nat→Bool)(sh:List Sh)(kn:List (Nat×List Nat×Value)):∀ (l:List (Oper×cn))(i:Nat)(s:S),bu base c i l (s.wk sh kn)=(bu base c i l s).wk sh kn
 | [],_,_=>rfl
 | (o,d)::l,i,s=>by
  unfold bu
  split
  ·rw [mE,kC base c sh kn l]
  rw [kC base c sh kn l]
theorem m5{base:Nat}:∀ (l:List (Oper×cn))(k i:Nat)(s:S),bu base (fun j=>decide (j<k+i)) k l s=bu base (fun _=>true) k (l.take i) s
 | [],k,i,s=>by simp [bu]
 | (o,d)::l,k,0,s=>by
  have h:∀ (l:List (Oper×cn)) (m:Nat) (s:S),k≤m→bu base (fun j=>decide (j<k+0)) m l s=s:=by
   intro l
   induction l with
   | nil=>intro m s _;rfl
   | cons x l ih =>
    intro m s hm
    obtain⟨o,d⟩:=x
    unfold bu
    rw [if_neg aw]
    exact ih (m+1) s ab
  rw [h _ _ _ (Nat.le_refl _)]
  rfl
 | (o,d)::l,k,i+1,s=>by
  simp only [List.take_succ_cons,bu]
  rw [if_pos ai,if_pos trivial]
  have:=m5 (base:=base) l (k+1) i (s.dl (base+k) o.dst d.v d.new d.wr)
  rw [← this]
  congr 1
  funext j
  rw [show k+1+i=k+(i+1) by omega]
section
variable {C:Cx}{w0:fB}{ps:List (World→Prop)}{T:List TF}{ρ ρ':List Value}{s:S}{a:Act}{W:World}{α:Nat→AV}{Q:Exit→Act→World→Prop}{rr:Option Nat}
theorem aF.wk(h:aF w0 ps T ρ s a W α){kn:List (Nat×List Nat×Value)}(hk:∀ e∈kn,e.1<ρ.length∧e.2.1.foldl comp (ρ.getD e.1 undef)=e.2.2):aF w0 ps T ρ (s.wk s.sh kn) a W α :=
 ⟨h.defers,⟨h.good.len,h.good.fit,hk⟩,⟨h.wf.fr,h.wf.stk,h.wf.hp,h.wf.ln⟩,h.fm,h.lO,h.st,h.rows,h.lens⟩
theorem nD(hp:ρ<+:ρ'){kn:List (Nat×List Nat×Value)}(hk:∀ e∈kn,e.1<ρ.length∧e.2.1.foldl comp (ρ.getD e.1 undef)=e.2.2):∀ e∈kn,e.1<ρ'.length∧e.2.1.foldl comp (ρ'.getD e.1 undef)=e.2.2:=fun e he=>by
 obtain⟨h1,h2⟩:=hk e he
 obtain⟨r,rfl⟩:=hp
 refine⟨aw,?_⟩
 rwa [List.getD_eq_getElem?_getD,List.getElem?_append_left h1,← List.getD_eq_getElem?_getD]
def CO(C:Cx)(rr:Option Nat)(w0:fB)(ps:List (World→Prop))(T:List TF)(ρ:List Value)(Q:Exit→Act→World→Prop)(all:Array Oper)(nm:Nat)(o:Oper)(d:cn)(s pre:S):Prop :=
 ∀ ρf shf knf,ρ<+:ρf→s.sh<+:shf→qq C rr w0 ps T ρf Q all nm o d (pre.wk shf knf)
theorem np{s s':S}{xs:List Operand}{vs:List V}(hk:s'.kn=s.kn)(hf:∀ x∈tmpsOf xs,s'.fr[x]?=s.fr[x]?)(h:xs.mapM s.ev=some vs):xs.mapM s'.ev=some vs:=by
 induction xs generalizing vs with
 | nil=>exact h
 | cons x xs ih =>
  simp only [List.mapM_cons,Option.bind_eq_bind,Option.bind_eq_some_iff]at h ⊢
  obtain⟨v,hv,vs',hvs,h⟩:=h
  refine⟨v,?_,vs',ih (fun y hy=>hf y ?_) hvs,h⟩
  ·cases x with
   | tmp t =>
    have:=hf t (by simp [tmpsOf])
    simp only [S.ev,this,hk]at hv ⊢
    exact hv
   | const v=>exact hv
   | global g=>exact hv
   | func f=>exact hv
  cases x<;>simp [tmpsOf,hy]
theorem qB{hp hp':List (Option ak)}{vs:List V}(h:∀ n∈eu vs,hp'[n]?=hp[n]?):cK hp' vs=cK hp vs:=by
 unfold cK
 exact List.map_congr_left fun n hn=>by rw [h n hn]
theorem rj{hp hp':List (Option ak)}:∀ {vs:List V},(∀ n∈eu vs,hp'[n]?=hp[n]?)→pk hp' vs=pk hp vs
 | [],_=>rfl
 | v::l,h=>by
  have h1:∀ n∈eu l,hp'[n]?=hp[n]?:=fun n hn=>h n (by simp only [eu,List.flatMap_cons,List.mem_append];exact .inr hn)
  unfold pk
  rw [rj h1]
  congr 1
  cases v<;>try rfl
  rename_i n _ _ _
  simp only
  rw [h n (by simp [eu,vS])]
theorem uD{s s':S}{op:Op}{vs:List V}(h:∀ n∈gH s.hp op vs,s'.hp[n]?=s.hp[n]?)(h':∀ n∈fg op vs,s'.ln[n]?=s.ln[n]?):s'.ja op vs=s.ja op vs:=by
 unfold S.ja
 unfold gH at h
 unfold fg at h'
 split
 ·rename_i hs
  rw [if_pos hs]at h'
  exact qB h'
 rename_i hs
 rw [if_neg hs]at h
 have hd:fS s'.hp op vs=fS s.hp op vs:=by
  unfold fS at h ⊢
  split
  ·rename_i hc
   rw [if_pos hc]at h
   rw [rj fun n hn=>h n (by simp only [eu,List.flatMap_append,List.mem_append]at hn ⊢;exact .inl hn)]
  rfl
 rw [hd]
 exact qB h
mutual
theorem V.iI{hp hp':List (Option ak)}{m:Nat}:∀ v:V,(∀ n∈v.names,lv hp' n=lv hp n)→v.wf hp' m=v.wf hp m
 | .k _,_=>rfl
 | .x _ _,_=>rfl
 | .p n _,h=>h n (by simp [V.names])
 | .sl n _ _ _,h=>h n (by simp [V.names])
 | .row n,h=>h n (by simp [V.names])
 | .y n,h=>h n (by simp [V.names])
 | .mapV n,h=>h n (by simp [V.names])
 | .cat cs,h=>fA cs h
 | .a cs,h=>fA cs h
 | .t cs,h=>fA cs h
 | .f _ a b,h=>by simp only [V.wf,fA a fun n hn=>h n (by simp [V.names,hn]),fA b fun n hn=>h n (by simp [V.names,hn])]
 | .ep s i _ _,h=>by simp only [V.wf,V.iI s fun n hn=>h n (by simp [V.names,hn]),V.iI i fun n hn=>h n (by simp [V.names,hn])]
 | .pt s i _ _,h=>by simp only [V.wf,V.iI s fun n hn=>h n (by simp [V.names,hn]),V.iI i fun n hn=>h n (by simp [V.names,hn])]
 | .ifc _ v,h=>V.iI v h
theorem fA{hp hp':List (Option ak)}{m:Nat}:∀ l:List V,(∀ n∈aM l,lv hp' n=lv hp n)→dw hp' m l=dw hp m l
 | [],_=>rfl
 | v::l,h=>by simp only [dw,V.iI v fun n hn=>h n (by simp [aM,hn]),fA l fun n hn=>h n (by simp [aM,hn])]
end
theorem kO{hp hp':List (Option ak)}{n:Nat}(h:hp'[n]?=hp[n]?):lv hp' n=lv hp n:=by unfold lv;rw [h]
theorem vN{hp hp':List (Option ak)}{n nm:Nat}{b:ak}(hl:hp'.length=hp.length)(h:n≠nm→hp'[n]?=hp[n]?):lv (hp'.set nm (some b)) n=lv (hp.set nm (some b)) n:=by
 apply kO
 by_cases e:nm=n
 ·subst e;simp [List.getElem?_set,hl]
 rw [List.getElem?_set_ne e,List.getElem?_set_ne e,h fun h=>e h.symm]
theorem vQ{n nm:Nat}{v:V}{new:Option ak}{wr:Option (Nat×ak)}(hn:n∈v.names∨(∃ b,new=some b∧n∈aM b.c)∨(∃ m b,wr=some (m,b)∧(n=m∨n∈aM b.c)))(h:n≠nm):n∈cF nm v new wr:=by
 unfold cF
 refine List.mem_filter.2 ⟨?_,af h⟩
 rcases hn with hn|⟨b,rfl,hn⟩|⟨m,b,rfl,hn⟩
 ·simp [hn]
 ·simp [hn]
 rcases hn with rfl|hn
 ·simp
 simp [hn]
theorem kH{s s':S}{nm:Nat}{v:V}{new:Option ak}{wr:Option (Nat×ak)}(hl:s'.ln.length=s.ln.length)(h0:s'.ln[nm]?=s.ln[nm]?)(h:∀ n∈cF nm v new wr,s'.ln[n]?=s.ln[n]?)(hs:s.sh.length≤s'.sh.length)(hw:aW s nm v new wr=true):aW s' nm v new wr=true:=by
 have hin:∀ n,n∈v.names∨(∃ b,new=some b∧n∈aM b.c)∨(∃ m b,wr=some (m,b)∧(n=m∨n∈aM b.c))→s'.ln[n]?=s.ln[n]?:=fun n hn=>by
  by_cases e:n=nm
  ·rw [e];exact h0
  exact h n (vQ hn e)
 clear h
 unfold aW at *
 simp only [Bool.and_eq_true]at hw ⊢
 obtain⟨⟨h1,h2⟩,h3⟩:=hw
 refine⟨⟨V.eP (fun _ h=>h) hs v ?_,?_⟩,?_⟩
 ·rw [V.iI v fun n hn=>?_]
  ·exact h1
  unfold ov
  cases new with
  | none=>exact kO (hin n (.inl hn))
  | some b=>exact vN hl fun _=>hin n (.inl hn)
 ·cases new with
  | none=>rfl
  | some b =>
   refine bS (fun _ h=>h) hs b.c ?_
   rw [fA b.c fun n hn=>kO (hin n (.inr (.inl ⟨b,rfl,hn⟩)))]
   exact h2
 cases wr with
 | none=>rfl
 | some e =>
  obtain⟨m,b⟩:=e
  simp only [Bool.and_eq_true]at h3 ⊢
  refine⟨bS (fun _ h=>h) hs b.c ?_,?_⟩
  ·rw [fA b.c fun n hn=>kO (hin n (.inr (.inr ⟨m,b,rfl,.inr hn⟩)))]
   exact h3.1
  rw [kO (hin m (.inr (.inr ⟨m,b,rfl,.inl rfl⟩)))];exact h3.2
theorem lX{sh:List Sh}{nm:Nat}{op:Op}{vs:List V}{bs:List (Nat×Option ak)}{p:Pl}(h:dQ C sh nm op vs bs=p)(hp:p≠.no):∀ c,op≠.defer c:=by
 rintro c rfl
 exact hp (h.symm.trans (by simp [dQ,kW,gj]))
theorem Ju{all:Array Oper}{nm:Nat}{o:Oper}{v:V}{new:Option ak}{wr:Option (Nat×ak)}{vs:List V}(hg:Good ρ s)(hwant:∀ (s':S) ρf a' W',s'.kn=s.kn→eI (slotsOf all o) [] [] s' s→Inv w0 ps T ρf s' a' W'→Region.wanted o (yielded all a'.tmps)=true)(hvs:o.op.operands.toList.mapM s.ev=some vs)(h:dQ C s.sh nm o.op vs (s.ja o.op vs)=.ef v new wr)(hw:aW s nm v new wr=true)(hnm:bh s nm) :
 CO C rr w0 ps T ρ Q all nm o ⟨v,new,wr,slotsOf all o,gH s.hp o.op vs,fg o.op vs++cF nm v new wr⟩ s s:=by
 intro ρf shf knf hρ hsh s' a' W' K hsame hag hI hK
 obtain⟨α,hA⟩:=hI
 have hkn:=nD hρ hg.kn
 have hA':=hA.wk hkn
 have hfr:∀ x∈slotsOf all o,s'.fr[x]?=s.fr[x]?:=hag.fr
 have hhp:∀ n∈nm::gH s.hp o.op vs,s'.hp[n]?=s.hp[n]?:=hag.hp
 have hln:∀ n∈nm::(fg o.op vs++cF nm v new wr),s'.ln[n]?=s.ln[n]?:=hag.ln
 rw [if_pos (hwant (s'.wk s'.sh s.kn) ρf a' W' rfl ⟨hfr,(fun _ h=>nomatch h),(fun _ h=>nomatch h)⟩ ⟨α,hA'⟩)]
 refine dt (lX h nofun) ?_
 refine F2 (s:=s'.wk s'.sh s.kn) (nm:=nm) (sh:=s.sh) (v:=v) (new:=new) (wr:=wr) (vs:=vs) ?_ (np (s:=s) rfl (fun x hx=>hfr x (by simp [slotsOf,hx])) hvs) ?_ hA' (.inr ?_) ?_ fun a2 W2 h2=>hK a2 W2 ?_
 ·show s.sh<+:s'.sh
  rw [hsame.sh];exact hsh
 ·show dQ C s.sh nm o.op vs (s'.ja o.op vs)=_
  rw [uD (s:=s) (fun n hn=>hhp n (by simp [hn])) (fun n hn=>hln n (by simp [hn]))]
  exact h
 ·exact⟨(hhp nm (List.mem_cons_self ..)).trans hnm.1,(hln nm (List.mem_cons_self ..)).trans hnm.2⟩
 ·refine kH (s:=s) (s':=s'.wk s'.sh s.kn) hsame.lnl (hln nm (List.mem_cons_self ..)) (fun n hn=>hln n (by simp [hn])) ?_ hw
  show s.sh.length≤s'.sh.length
  rw [hsame.sh]
  exact List.IsPrefix.length_le hsh
 obtain⟨α2,h2⟩:=h2
 rw [mE]at h2
 have e:s'=s'.wk s'.sh s'.kn:=rfl
 rw [e,mE]
 have hkk:∀ e∈s'.kn,e.1<ρf.length∧e.2.1.foldl comp (ρf.getD e.1 undef)=e.2.2:=hA.good.kn
 exact⟨α2,h2.wk hkk |> fun q=>q⟩
theorem Oo{w0:fB}{nm:Nat}{o:Oper}{d:cn}{s':S}{kn:List (Nat×List Nat×Value)}{ρf:List Value}{a2:Act}{W2:World}(hk:∀ e∈s'.kn,e.1<ρf.length∧e.2.1.foldl comp (ρf.getD e.1 undef)=e.2.2)(h2:Inv w0 ps T ρf ((s'.wk s'.sh kn).dl nm o.dst d.v d.new d.wr) a2 W2):Inv w0 ps T ρf (s'.dl nm o.dst d.v d.new d.wr) a2 W2:=by
 obtain⟨α2,h2⟩:=h2
 rw [mE]at h2
 have h3:=h2.wk hk
 have e:s'=s'.wk s'.sh s'.kn:=rfl
 rw [e,mE]
 exact⟨α2,h3⟩
theorem DG{all:Array Oper}{nm:Nat}{o:Oper}(hwant:∀ (s':S) ρf a' W',s'.kn=s.kn→eI (slotsOf all o) [] [] s' s→Inv w0 ps T ρf s' a' W'→Region.wanted o (yielded all a'.tmps)=false)(hg:Good ρ s) :
 CO C rr w0 ps T ρ Q all nm o ⟨.k undef,none,none,slotsOf all o,[],[]⟩ s s:=by
 intro ρf shf knf hρ hsh s' a' W' K hsame hag hI hK
 obtain⟨α,hA⟩:=hI
 have hkn:=nD hρ hg.kn
 rw [if_neg (by rw [hwant (s'.wk s'.sh s.kn) ρf a' W' rfl ⟨hag.fr,(fun _ h=>nomatch h),(fun _ h=>nomatch h)⟩ ⟨α,hA.wk hkn⟩];decide)]
 exact hK _ _ ⟨α,hA.fN o.dst rfl rfl⟩
theorem cQ(hp:ρ<+:ρ'){hp0:List (Option ak)}:∀ {rw:List Rw}{args:List V}{as':List Arg},dw hp0 ρ.length args=true→rw.all (Rw.wf hp0 ρ.length)=true→bT C ρ α rw args as'→bT C ρ' α rw args as'
 | [],[],[],_,_,_=>trivial
 | .no::r,v::vs,x::xs,h1,h2,h3=>by
  simp only [dw,Bool.and_eq_true,List.all_cons]at h1 h2
  obtain⟨h4,h5,h6⟩:=h3
  exact⟨by rw [iU hp h1.1];exact h4,by rw [iU hp h1.1];exact h5,cQ hp h1.2 h2.2 h6⟩
 | .own sz cs::r,v::vs,x::xs,h1,h2,h3=>by
  simp only [dw,Bool.and_eq_true,List.all_cons]at h1 h2
  obtain⟨h4,h6⟩:=h3
  exact⟨by rw [iU hp h1.1,ez (hp:=hp0) (fun _ _=>rfl) hp cs h2.1];exact h4,cQ hp h1.2 h2.2 h6⟩
 | .ext sz::r,v::vs,x::xs,h1,h2,h3=>by
  simp only [dw,Bool.and_eq_true,List.all_cons]at h1 h2
  obtain⟨h4,h5,h6,h7⟩:=h3
  exact⟨by rw [iU hp h1.1];exact h4,h5,by rw [iU hp h1.1];exact h6,cQ hp h1.2 h2.2 h7⟩
 | .row sz cs::r,v::vs,x::xs,h1,h2,h3=>by
  simp only [dw,Bool.and_eq_true,List.all_cons]at h1 h2
  obtain⟨h4,h6⟩:=h3
  exact⟨by rw [iU hp h1.1,ez (hp:=hp0) (fun _ _=>rfl) hp cs h2.1];exact h4,cQ hp h1.2 h2.2 h6⟩
 | .row _ _::_,[],_,_,_,h=>h.elim
 | .row _ _::_,_::_,[],_,_,h=>h.elim
 | [],[],_::_,_,_,h=>h.elim
 | [],_::_,_,_,_,h=>h.elim
 | .no::_,[],_,_,_,h=>h.elim
 | .own _ _::_,[],_,_,_,h=>h.elim
 | .ext _::_,[],_,_,_,h=>h.elim
 | .no::_,_::_,[],_,_,h=>h.elim
 | .own _ _::_,_::_,[],_,_,h=>h.elim
 | .ext _::_,_::_,[],_,_,h=>h.elim
theorem rN(hp:ρ<+:ρ'){hp0:List (Option ak)}{q:cZ}{args:List V}{v:Value}(ha:dw hp0 ρ.length args=true)(hq:q.wf hp0 ρ.length=true)(h:q.rel C ρ α args v):q.rel C ρ' α args v:=by
 have e:=ez (hp:=hp0) (α:=α) (α':=α) (fun _ _=>rfl) hp args ha
 unfold cZ.rel at h
 split at h
 all_goals first
  | exact h.elim
  | (
   simp only [ah,List.cons.injEq,and_true]at e
   simp only [cZ.rel,e]
   exact h)
  | skip
 ·-- dN
  rename_i c y
  simp only [ah,List.cons.injEq,and_true]at e
  simp only [dw,Bool.and_eq_true]at ha
  obtain⟨x,h1,h2⟩:=h
  refine⟨x,cQ (rw:=[_]) (args:=[y]) hp (hp0:=hp0) (by simp [dw,ha.2.1]) (by simpa [cZ.wf]using hq) h1,?_⟩
  rw [e.1]
  exact h2
 ·show oM _ _ _ _ _ (ah ρ' α _)=some v
  rw [e];exact h
 ·obtain⟨as',h1,h2⟩:=h
  exact⟨as',cQ hp ha hq h1,h2⟩
 ·-- callg
  rename_i f rw grw
  obtain⟨as',gs,h1,h2,h3⟩:=h
  simp only [cZ.wf,Bool.and_eq_true]at hq
  exact⟨as',gs,cQ hp (ki fun u hu=>dF ha u (List.mem_of_mem_take hu)) hq.1 h1,cQ hp (ki fun u hu=>dF ha u (List.mem_of_mem_drop hu)) hq.2 h2,h3⟩
 ·-- callp
  rename_i f rw t
  obtain⟨as',h1,h2⟩:=h
  have ed:ah ρ' α (args.drop rw.length)=ah ρ α (args.drop rw.length):=by rw [aE,aE,List.map_drop,List.map_drop,← aE,← aE,e]
  exact⟨as',cQ hp (ki fun u hu=>dF ha u (List.mem_of_mem_take hu)) (by simpa [cZ.wf]using hq) h1,by rw [ed];exact h2⟩
 ·-- callr
  rename_i f rw sz t c vs
  simp only [ah,List.cons.injEq]at e
  simp only [dw,Bool.and_eq_true]at ha
  obtain⟨as',h1,h2⟩:=h
  exact⟨as',cQ hp ha.2 (by simpa [cZ.wf]using hq) h1,by rw [e.1];exact h2⟩
 ·-- calln
  obtain⟨as',h1,h2⟩:=h
  exact⟨as',cQ hp ha (by simpa [cZ.wf]using hq) h1,h2⟩
 ·-- callw
  rename_i f rw caps
  obtain⟨as',h1,h2⟩:=h
  simp only [cZ.wf,Bool.and_eq_true]at hq
  refine⟨as',cQ hp (ki fun u hu=>dF ha u (List.mem_of_mem_take hu)) hq.1 h1,?_⟩
  have:caps.map (ah ρ' α)=caps.map (ah ρ α):=List.map_congr_left fun c hc=>ez (hp:=hp0) (fun _ _=>rfl) hp c (List.all_eq_true.1 hq.2 c hc)
  rw [this]
  exact h2
 ·-- appx
  rename_i x y
  simp only [ah,List.cons.injEq,and_true]at e
  simp only [dw,Bool.and_eq_true]at ha
  obtain⟨cells,xa,A,n,h1,h2,h3,h4,h5,h6⟩:=h
  refine⟨cells,xa,A,n,by rw [e.1];exact h1,by rw [e.1];exact h2,by rw [e.1];exact h3,h4,cQ (rw:=[_]) (args:=[y]) hp (hp0:=hp0) (by simp [dw,ha.2.1]) (by simpa [cZ.wf]using hq) h5,h6⟩
 ·-- apo
  rename_i x y
  simp only [ah,List.cons.injEq,and_true]at e
  simp only [dw,Bool.and_eq_true]at ha
  obtain⟨xa,h1,h2,h3,h4,h5⟩:=h
  rw [← e.1]at h5
  exact⟨xa,cQ (rw:=[_]) (args:=[y]) hp (hp0:=hp0) (by simp [dw,ha.2.1]) (by simpa [cZ.wf]using hq) h1,h2,h3,h4,h5⟩
 rename_i neq n l
 have et:∀ m,ah ρ' α (args.take m)=ah ρ α (args.take m):=fun m=>by rw [aE,aE,List.map_take,List.map_take,← aE,← aE,e]
 have ed:∀ m,ah ρ' α (args.drop m)=ah ρ α (args.drop m):=fun m=>by rw [aE,aE,List.map_drop,List.map_drop,← aE,← aE,e]
 obtain⟨b,h1,h2,h3,h4⟩:=h
 exact⟨b,by rw [et,ed];exact h1,by rw [et];exact h2,by rw [ed];exact h3,h4⟩
theorem Jt{all:Array Oper}{nm:Nat}{o:Oper}{q:cZ}{args:List V}{sh:Sh}{mk:Option V}{new:Option ak}{wr:Option (Nat×ak)}{vs:List V}{v:Value}(hC:C.Ok)(hps:me C w0 ps)(hg:Good ρ s)(hwant:∀ (s':S) ρf a' W',s'.kn=s.kn→eI (slotsOf all o) [] [] s' s→Inv w0 ps T ρf s' a' W'→Region.wanted o (yielded all a'.tmps)=true)(hvs:o.op.operands.toList.mapM s.ev=some vs)(h:dQ C s.sh nm o.op vs (s.ja o.op vs)=.df q args sh mk new wr)
 (hrel:∀ α,q.rel C ρ α args v) (hargs:dw s.ln s.sh.length args=true) (hq:q.wf s.ln s.sh.length=true) (hfit:sh.fit v=true) (hw:aW (s.ext sh) nm (bx s.sh.length sh mk) new wr=true) (hnm:bh s nm) :
 CO C rr w0 ps T (ρ++[v]) Q all nm o ⟨bx s.sh.length sh mk,new,wr,slotsOf all o,gH s.hp o.op vs,fg o.op vs++cF nm (bx s.sh.length sh mk) new wr⟩ (s.ext sh) s:=by
 intro ρf shf knf hρ hsh s' a' W' K hsame hag hI hK
 obtain⟨α,hA⟩:=hI
 have hρ0:ρ<+:ρf:=(List.prefix_append ρ [v]).trans hρ
 have hkn:=nD hρ0 hg.kn
 have hA':=hA.wk hkn
 have hfr:∀ x∈slotsOf all o,s'.fr[x]?=s.fr[x]?:=hag.fr
 have hhp:∀ n∈nm::gH s.hp o.op vs,s'.hp[n]?=s.hp[n]?:=hag.hp
 have hln:∀ n∈nm::(fg o.op vs++cF nm (bx s.sh.length sh mk) new wr),s'.ln[n]?=s.ln[n]?:=hag.ln
 rw [if_pos (hwant (s'.wk s'.sh s.kn) ρf a' W' rfl ⟨hfr,(fun _ h=>nomatch h),(fun _ h=>nomatch h)⟩ ⟨α,hA'⟩)]
 have hsh2:(s.ext sh).sh<+:s'.sh:=by rw [hsame.sh];exact hsh
 have hv:ρf[s.sh.length]?=some v:=by
  obtain⟨r,rfl⟩:=hρ
  rw [hg.len]
  simp
 refine dt (lX h nofun) ?_
 refine FZ (s:=s'.wk s'.sh s.kn) (sh0:=s.sh) (nm:=nm) (vs:=vs) (v:=v) (q:=q) (args:=args) (sh:=sh) (mk:=mk) (new:=new) (wr:=wr) ((List.prefix_append s.sh [sh]).trans hsh2) hC hps (np (s:=s) rfl (fun x hx=>hfr x (by simp [slotsOf,hx])) hvs) ?_ hA' hv ?_ hfit (.inr ?_) ?_ fun a2 W2 h2=>hK a2 W2 (Oo hA.good.kn h2)
 ·show dQ C s.sh nm o.op vs (s'.ja o.op vs)=_
  rw [uD (s:=s) (fun n hn=>hhp n (by simp [hn])) (fun n hn=>hln n (by simp [hn]))]
  exact h
 ·rw [hg.len]at hargs hq
  exact rN hρ0 hargs hq (hrel α)
 ·exact⟨(hhp nm (List.mem_cons_self ..)).trans hnm.1,(hln nm (List.mem_cons_self ..)).trans hnm.2⟩
 exact kH (s:=s.ext sh) (s':=s'.wk s'.sh s.kn) hsame.lnl (hln nm (List.mem_cons_self ..)) (fun n hn=>hln n (by simp [hn])) (List.IsPrefix.length_le hsh2) hw
theorem St.NP{hs:List Ch}(h:St w0 hs [] ps W):St ⟨W,hs.map (·.id),fun _=>False,fun _=>False⟩ hs [] ps W :=
 ⟨⟨rfl,rfl,rfl,Nat.le_refl _,fun _ _ _=>rfl⟩,fun e he=>⟨.inr (List.mem_map_of_mem (f:=(·.id)) he),(h.dS e he).2⟩,(fun _ h=>nomatch h),h.nodup,h.pers⟩
def kr(C:Cx)(ps:List (World→Prop))(n:Nat):Prop:=∀ (w0:fB) (T0:List TF) (R:Ending→World→Prop) (G:kp) (lv:Nat) (s:S) (items:List It) (T:List TF) (J:List (Act→World→Prop)) (L:List (Cx→List Value→Prop)) (ρ:List Value) (a:Act) (W:World),
 (G.eO=12→w0.ms=[]∧(C.la=true→w0.rf C.nb))→me C w0 ps→VC C w0 ps T0 R L ρ (run C G n lv s items)→L.length=lv→Rel w0 ps T0 L ρ items T J→Inv w0 ps T ρ s a W→jk C.P R items T J .normal a W
theorem ec{nms:List Nat}{hp:List (Option ak)}{n:Nat}{b:ak}(h:(x8 nms hp)[n]?=some (some b)):hp[n]?=some (some b)∧n∈nms:=by
 simp only [x8,List.getElem?_mapIdx,Option.map_eq_some_iff]at h
 obtain⟨o,ho,h⟩:=h
 split at h
 ·rename_i hc
  subst h
  exact⟨ho,af hc⟩
 cases h
theorem IF{s:S}{m:Nat}(h:Fs s=true)(hm:s.sh.length=m):s.Wf m:=by
 subst hm
 simp only [Fs,Bool.and_eq_true]at h
 obtain⟨⟨⟨⟨h1,h2⟩,h3⟩,h4⟩,h5⟩:=h
 refine⟨fun v hv=>List.all_eq_true.1 h1 _ hv,fun f hf v hv=>List.all_eq_true.1 (List.all_eq_true.1 h2 f hf) _ hv,fun b hb=>?_,fun b hb=>List.all_eq_true.1 h3 _ hb⟩
 have:=List.all_eq_true.1 h5 _ hb
 simp only [Bool.and_eq_true]at this
 exact this.1
theorem IE{s:S}(h:Fs s=true){n:Nat}{b:ak}(hn:s.hp[n]?=some (some b)):lv s.ln n=true:=by
 simp only [Fs,Bool.and_eq_true]at h
 have:=List.all_eq_true.1 h.1.2 n (by simpa using (List.getElem?_eq_some_iff.1 hn).1)
 rw [hn]at this
 exact this
theorem CD{n:Nat}(hrun:kr C ps n)(hps:me C w0 ps){Gk:kp}(hgk:Gk.eO≠12){g:FuncId}{fn:Func}{body:Code}{args:List V}{v:V}{hp':List (Option ak)}{stk':List (List (Option V))}(hfn:C.P.funcs[g]?=some fn)(hbody:fn.body=some body)
 (ht:run C Gk n 0 (cd s g fn args) [.code body,.top fn]=.ret v hp' stk') (hlen:args.length≤fn.ntmps) (hwf:Fs (cd s g fn args)=true) (hh:jg [] iz 0 (cd s g fn args).hp hp'=true) (hk:nn (cd s g fn args).stk stk'=true)
 (hg:Good ρ s) (hρ:ρ<+:ρ') {s':S} (hA:aF w0 ps T ρ' s' a W α) (hagree:∀ n∈aM args,s'.hp[n]?=s.hp[n]?) (hagreeL:∀ n∈aM args,s'.ln[n]?=s.ln[n]?) :
 Calls C.P g (ah ρ' α args).toArray W fun e W'=>Below W.heap.size W W'∧∃ α',e=.returned (v.den ρ α')∧(∀ m∈aM args,(α' m).b=(α m).b∧(α' m).h=(α m).h)∧St ⟨W,(aU ρ α 0 (cd s g fn args).hp).map (·.id),fun _=>False,fun _=>False⟩ (aU ρ α' 0 hp') [] ps W':=by
 have hwfI:=IF (m:=ρ.length) hwf hg.len
 have hkc:∀ (m:Nat) (b:ak),(cd s g fn args).hp[m]?=some (some b)→b.k=.cells:=fun m b hb=>by
  simp only [Fs,Bool.and_eq_true]at hwf
  have:=List.all_eq_true.1 hwf.2 _ (List.mem_of_getElem? hb)
  simp only [Bool.and_eq_true,decide_eq_true_eq]at this
  exact this.2
 have hargsw:dw (cd s g fn args).ln ρ.length args=true:=ki fun u hu=>hwfI.fr u (List.mem_append_left _ (List.mem_map_of_mem (f:=some) hu))
 have hargs:ah ρ' α args=ah ρ α args:=ez (hp:=(cd s g fn args).ln) (fun _ _=>rfl) hρ args hargsw
 rw [hargs]
 have hsub:List.Sublist (aU ρ α 0 (cd s g fn args).hp) (aU ρ' α 0 s'.hp):=na fun m b hb=>by
  obtain⟨h1,h2⟩:=ec hb
  refine⟨b,by rw [hagree m h2];exact h1,rfl,rfl,?_⟩
  exact(ez (hp:=(cd s g fn args).ln) (fun _ _=>rfl) hρ b.c (hwfI.hp b (List.mem_of_getElem? hb))).symm
 have hSt:=hA.st.oW hsub (List.nil_sublist _) (fun _ h=>h)
 refine cY hfn hbody ?_
 have hI:Inv ⟨W,(aU ρ α 0 (cd s g fn args).hp).map (·.id),fun _=>False,fun _=>False⟩ ps [⟨(((aM args).map fun m=>Value.pointer (some ⟨(α m).b,0,none⟩))++(aM args).map fun m=>(α m).h).toArray,[],none⟩] ρ (cd s g fn args) { tmps:=(ah ρ α args).toArray++Array.replicate (fn.ntmps-(ah ρ α args).toArray.size) undef,defers:=[] } W:=by
  refine⟨α,⟨nofun,nofun,rfl⟩,⟨hg.len,hg.fit,hg.kn⟩,hwfI,⟨by simp [cd,aq],fun d u hd=>?_⟩,⟨⟨by simp [cd],fun d u hd=>?_⟩,trivial⟩,jF (St.NP hSt) fun p hpm=>?_,fun m b hb=>?_,fun m b hb=>?_⟩
  ·rw [Array.getElem?_append]
   simp only [List.size_toArray,aq]
   simp only [cd]at hd
   by_cases hlt:d<args.length
   ·rw [List.getElem?_append_left (af hlt),List.getElem?_map,List.getElem?_eq_getElem hlt]at hd
    simp only [Option.map_some,Option.some.injEq]at hd
    rw [if_pos hlt]
    simpa using dC (ρ:=ρ) (α:=α) (by rw [List.getElem?_eq_getElem hlt,hd])
   rw [List.getElem?_append_right (af hlt),List.getElem?_replicate]at hd
   rw [if_neg hlt,Array.getElem?_replicate]
   simp only [List.length_map]at hd
   split at hd
   ·rename_i h9
    rw [if_pos h9]
    cases hd
    rfl
   cases hd
  ·have e:(((aM args).map fun m=>Value.pointer (some ⟨(α m).b,0,none⟩))++(aM args).map fun m=>(α m).h)=((aM args).map (fun n=>V.p n 0)++(aM args).map (fun n=>V.row n)).map (V.den ρ α):=by
    simp [V.den,Function.comp_def]
   rw [e]
   rw [show(aM args).map (fun n=>some (V.p n 0))++(aM args).map (fun n=>some (V.row n))=((aM args).map (fun n=>V.p n 0)++(aM args).map (fun n=>V.row n)).map some by simp [Function.comp_def]]at hd
   rw [List.getElem?_map,Option.map_eq_some_iff]at hd
   obtain⟨u',hu',hd⟩:=hd
   cases hd
   rw [List.getElem?_toArray,List.getElem?_map,hu']
   rfl
  ·rcases List.mem_append.1 hpm with hpm|hpm
   ·obtain⟨m,b,h1,h2⟩:=cL.1 hpm
    rw [ak.kR (by simp [ak.own,hkc m b h1])]at h2
    cases h2
   exact List.mem_append.2 (.inr hpm)
  ·exact⟨IE hwf hb,by simp only [ak.bB,hkc m b hb]⟩
  obtain⟨h1,h2⟩:=ec hb
  have h3:=hA.lens m b (by rw [hagreeL m h2];exact h1)
  have h4:=hwfI.ln b (List.mem_of_getElem? hb)
  unfold ak.kw ak.xs at h3 ⊢
  rw [← ez (hp:=(cd s g fn args).ln) (α:=α) (α':=α) (fun _ _=>rfl) hρ b.c h4]
  exact h3
 have:=hrun ⟨W,(aU ρ α 0 (cd s g fn args).hp).map (·.id),fun _=>False,fun _=>False⟩ [⟨(((aM args).map fun m=>Value.pointer (some ⟨(α m).b,0,none⟩))++(aM args).map fun m=>(α m).h).toArray,[],none⟩] (fun e W'=>Below W.heap.size W W'∧∃ α',e=.returned (v.den ρ α')∧(∀ m∈aM args,(α' m).b=(α m).b∧(α' m).h=(α m).h)∧St ⟨W,(aU ρ α 0 (cd s g fn args).hp).map (·.id),fun _=>False,fun _=>False⟩ (aU ρ α' 0 hp') [] ps W') Gk 0 (cd s g fn args) [.code body,.top fn] _ [] [] ρ _ W (fun h=>absurd h hgk) ⟨hps.1,fun _ h=>h.elim,fun _ h=>h.elim,Nat.le_trans hps.2.2.2.1 hA.st.b5.size,hps.2.2.2.2⟩ ?_ rfl rfl hI
 ·exact this
 rw [ht]
 simp only [VC]
 intro α' W' hF _ hS
 have hF2:=kz.lO (vB hk) hF
 have hα:∀ m∈aM args,(α' m).b=(α m).b∧(α' m).h=(α m).h:=fun m hm=>by
  obtain⟨j,hj⟩:=List.mem_iff_getElem?.1 hm
  have hjl:=(List.getElem?_eq_some_iff.1 hj).1
  have h1:=hF2.1.2 j (.p m 0) (by
   have:=(List.getElem?_eq_some_iff.1 hj).2
   simp [cd,hjl,List.getElem?_append_left,this])
  have h2:=hF2.1.2 ((aM args).length+j) (.row m) (by simp [cd,hj,List.getElem?_append_right])
  have hm2:(aM args)[j]=m:=by
   have:=(List.getElem?_eq_some_iff.1 hj).2
   exact this
  simp [hj,hjl,V.den,List.getElem?_append_left,List.getElem?_append_right]at h1 h2
  rw [hm2]at h1 h2
  exact⟨h1.symm,h2.symm⟩
 refine⟨⟨hS.b5.os,hS.b5.tape,hS.b5.output,hS.b5.size,fun b hb=>?_⟩,α',rfl,hα,hS.oW (.refl _) (.refl _) fun p h=>List.mem_append.2 (.inr h)⟩
 by_cases hm:b∈(aU ρ α 0 (cd s g fn args).hp).map (·.id)
 ·obtain⟨e,he,rfl⟩:=List.mem_map.1 hm
  obtain⟨m,b0,h1,hch⟩:=iR he
  rw [Nat.zero_add]at hch
  have hk0:=hkc m b0 h1
  obtain⟨b',h2,h3,hk',h4,h5⟩:=lL hh m b0 h1 ai
  have hbc:b'.c=b0.c:=by
   apply List.ext_getElem?
   intro j
   cases hq:b0.c[j]? with
   | some u=>exact h5 j u rfl hq
   | none=>rw [List.getElem?_eq_none_iff]at hq ⊢;omega
  have h8:ah ρ α' b'.c=ah ρ α b0.c:=by
   rw [hbc]
   exact fG (hp:=(cd s g fn args).ln) (fun n hn=>by
    obtain⟨b,hb⟩:=cX.1 hn
    exact hα n (ec hb).2) (List.prefix_refl _) b0.c (hwfI.hp b0 (List.mem_of_getElem? h1))
  have hch':b'.ch ρ α' (0+m)=some e:=by
   rw [← hch]
   simp only [ak.ch,hk',hk0,Nat.zero_add,h8,h3,(hα m (ec h1).2).1]
  have h6:=hS.KY (dk (k:=0) h2 hch')
  have h7:=hSt.KY (dk (k:=0) h1 (by rw [Nat.zero_add];exact hch))
  rw [h6]
  exact h7.symm
 exact hS.b5.block b hb hm
theorem E8{n:Nat}(hrun:kr C ps n)(hps:me C w0 ps){Gk:kp}(hgk:Gk.eO≠12){g:FuncId}{fn:Func}{body:Code}{args:List V}{v:V}{hp':List (Option ak)}{stk':List (List (Option V))}(hfn:C.P.funcs[g]?=some fn)(hbody:fn.body=some body)
 (ht:run C Gk n 0 (cd s g fn args) [.code body,.top fn]=.ret v hp' stk') (hlen:args.length≤fn.ntmps) (hwf:Fs (cd s g fn args)=true) (hh:jg [] iz 0 (cd s g fn args).hp hp'=true) (hk:nn (cd s g fn args).stk stk'=true) (hv:v.wf (cd s g fn args).ln s.sh.length=true)
 (hg:Good ρ s) (hρ:ρ<+:ρ') {s':S} (hA:aF w0 ps T ρ' s' a W α) (hagree:∀ n∈aM args,s'.hp[n]?=s.hp[n]?) (hagreeL:∀ n∈aM args,s'.ln[n]?=s.ln[n]?) :
 Calls C.P g (ah ρ' α args).toArray W fun e W'=>e=.returned (v.den ρ' α)∧Below W.heap.size W W':=by
 refine(CD hrun hps hgk hfn hbody ht hlen hwf hh hk hg hρ hA hagree hagreeL).mono fun e W' h=>?_
 obtain⟨hb,α',rfl,hα,_⟩:=h
 refine⟨?_,hb⟩
 have hα2:∀ n,lv (cd s g fn args).ln n=true→(α' n).b=(α n).b∧(α' n).h=(α n).h:=fun n hn=>by
  obtain⟨b,hb⟩:=cX.1 hn
  exact hα n (ec hb).2
 have h1:=V.iT (hp:=(cd s g fn args).ln) hα2 (List.prefix_refl ρ) v (by rw [← hg.len];exact hv)
 have h2:=V.qG (hp:=(cd s g fn args).ln) (α:=α) (α':=α) (fun _ _=>rfl) hρ v (by rw [← hg.len];exact hv)
 rw [h1,h2]
theorem Gj{n:Nat}(hrun:kr C ps n)(hps:me C w0 ps){Gk:kp}(hgk:Gk.eO≠12){all:Array Oper}{nm:Nat}{o:Oper}{c:Call}{f:Operand}{g:FuncId}{fn:Func}{body:Code}{args cap:List V}{v:V}{hp':List (Option ak)}{stk':List (List (Option V))}(hg:Good ρ s)(hwant:∀ (s':S) ρf a' W',s'.kn=s.kn→eI (slotsOf all o) [] [] s' s→Inv w0 ps T ρf s' a' W'→Region.wanted o (yielded all a'.tmps)=true)(hvs:o.op.operands.toList.mapM s.ev=some (.f (.func g) [] cap::args))
 (hop:o.op=.call c) (hcal:c.callee=.value f) (hen:enters C.P g=true) (hfn:C.P.funcs[g]?=some fn) (hbody:fn.body=some body)
 (ht:run C Gk n 0 (cd s g fn (args++cap)) [.code body,.top fn]=.ret v hp' stk') (hlen:(args++cap).length≤fn.ntmps) (hwf:Fs (cd s g fn (args++cap))=true) (hh:jg [] iz 0 (cd s g fn (args++cap)).hp hp'=true) (hk:nn (cd s g fn (args++cap)).stk stk'=true) (hv:v.wf (cd s g fn (args++cap)).ln s.sh.length=true) :
 CO C rr w0 ps T ρ Q all nm o ⟨v,none,none,slotsOf all o,aM (args++cap),aM (args++cap)⟩ s s:=by
 intro ρf shf knf hρ hsh s' a' W' K hsame hag hI hK
 obtain⟨α,hA⟩:=hI
 have hkn:=nD hρ hg.kn
 have hA':=hA.wk hkn
 have hfr:∀ x∈slotsOf all o,s'.fr[x]?=s.fr[x]?:=hag.fr
 have hhp:∀ m∈nm::aM (args++cap),s'.hp[m]?=s.hp[m]?:=hag.hp
 have hln:∀ m∈nm::aM (args++cap),s'.ln[m]?=s.ln[m]?:=hag.ln
 rw [if_pos (hwant (s'.wk s'.sh s.kn) ρf a' W' rfl ⟨hfr,(fun _ h=>nomatch h),(fun _ h=>nomatch h)⟩ ⟨α,hA'⟩)]
 have he:=cN hA'.good hA'.fm (np (s:=s) (s':=s'.wk s'.sh s.kn) rfl (fun x hx=>hfr x (by simp [slotsOf,hx])) hvs)
 rw [hop]at he
 obtain⟨cal,ar,at'⟩:=c
 simp only at hcal
 subst hcal
 simp only [Op.operands,Call.operands,ah,V.den]at he
 simp at he
 obtain⟨h7,h8⟩:=he
 have hc:=E8 hrun hps hgk hfn hbody ht hlen hwf hh hk hv hg hρ hA (fun m hm=>hhp m (List.mem_cons_of_mem _ hm)) fun m hm=>hln m (List.mem_cons_of_mem _ hm)
 refine dt (by rw [hop];intro c h;cases h) ?_
 refine iM hop h7 (vs:=(ah ρf α (args++cap)).toArray) ?_ (de hen _ _) (R:=fun u W2=>u=v.den ρf α∧Below W'.heap.size W' W2) (hc.mono fun e W2 h=>⟨_,h.1,rfl,h.2⟩) ?_
 ·exact Array.ext' (by simp [ea,h8])
 rintro u W2 ⟨rfl,hb⟩
 refine hK _ _ ⟨α,(hA.step hb).fN o.dst ?_ rfl⟩
 refine V.eP (hp:=(cd s g fn (args++cap)).ln) (fun m hm=>?_) (?_:s.sh.length≤_) v hv
 ·obtain⟨b,hb⟩:=cX.1 hm
  obtain⟨h1,h2⟩:=ec hb
  exact cX.2 ⟨b,by rw [hln m (List.mem_cons_of_mem _ h2)];exact h1⟩
 rw [hg.len];exact List.IsPrefix.length_le hρ
theorem F8{v:V}{b:ak}{nm:Nat}{o:Oper}{K:Act→World→Prop}(hI:aF w0 ps T ρ s a W α)(hnm:bh s nm)(hk:b.k=.cells)(hw:aW s nm v (some b) none=true)(hK:∀ a' W',Inv w0 ps T ρ (s.dl nm o.dst v (some b) none) a' W'→K a' W')
 {k:Nat} {W':World} (hS:St w0 (⟨k,(ah ρ α b.c).toArray,b.t⟩::aU ρ α 0 s.hp) (dP a s T) (gZ w0 ρ α 0 s.hp++ps) W') {u:Value} (hu:∀ α',(α' nm).b=k→(∀ n,lv s.ln n=true→α' n=α n)→u=v.den ρ α'):K (a.put o.dst u) W':=by
 simp only [aW,ov,Bool.and_eq_true,Bool.and_true,hI.good.len]at hw
 obtain⟨α',h1,h2,h3⟩:=hI.new hnm hk hw.2 hS
 exact hK _ _ ⟨α',h3.fN o.dst hw.1 (hu α' h1 h2)⟩
theorem Gm{n:Nat}(hrun:kr C ps n)(hps:me C w0 ps){Gk:kp}(hgk:Gk.eO≠12){all:Array Oper}{nm:Nat}{o:Oper}{c:Call}{f:Operand}{g:FuncId}{fn:Func}{body:Code}{args cap:List V}{v:V}{hp':List (Option ak)}{stk':List (List (Option V))}{r:Nat}{b:ak}(hg:Good ρ s)(hwant:∀ (s':S) ρf a' W',s'.kn=s.kn→eI (slotsOf all o) [] [] s' s→Inv w0 ps T ρf s' a' W'→Region.wanted o (yielded all a'.tmps)=true)(hvs:o.op.operands.toList.mapM s.ev=some (.f (.func g) [] cap::args))
 (hop:o.op=.call c) (hcal:c.callee=.value f) (hen:enters C.P g=true) (hfn:C.P.funcs[g]?=some fn) (hbody:fn.body=some body)
 (ht:run C Gk n 0 (cd s g fn (args++cap)) [.code body,.top fn]=.ret v hp' stk') (hlen:(args++cap).length≤fn.ntmps) (hwf:Fs (cd s g fn (args++cap))=true) (hh:jg [] iz 0 (cd s g fn (args++cap)).hp hp'=true) (hk:nn (cd s g fn (args++cap)).stk stk'=true)
 (had:vd (cd s g fn (args++cap)) v hp'=some (r,b)) (hro:v.iD (aM (args++cap)) r=true) (hwb:dw (cd s g fn (args++cap)).ln s.sh.length b.c=true) (hw:aW s nm (v.pT r nm) (some b) none=true) (hnm:bh s nm) :
 CO C rr w0 ps T ρ Q all nm o ⟨v.pT r nm,some b,none,slotsOf all o,aM (args++cap),aM (args++cap)++cF nm (v.pT r nm) (some b) none⟩ s s:=by
 intro ρf shf knf hρ hsh s' a' W' K hsame hag hI hK
 obtain⟨α,hA⟩:=hI
 have hkn:=nD hρ hg.kn
 have hA':=hA.wk hkn
 have hfr:∀ x∈slotsOf all o,s'.fr[x]?=s.fr[x]?:=hag.fr
 have hhp:∀ m∈nm::aM (args++cap),s'.hp[m]?=s.hp[m]?:=hag.hp
 have hln:∀ m∈nm::(aM (args++cap)++cF nm (v.pT r nm) (some b) none),s'.ln[m]?=s.ln[m]?:=hag.ln
 rw [if_pos (hwant (s'.wk s'.sh s.kn) ρf a' W' rfl ⟨hfr,(fun _ h=>nomatch h),(fun _ h=>nomatch h)⟩ ⟨α,hA'⟩)]
 have he:=cN hA'.good hA'.fm (np (s:=s) (s':=s'.wk s'.sh s.kn) rfl (fun x hx=>hfr x (by simp [slotsOf,hx])) hvs)
 rw [hop]at he
 obtain⟨cal,ar,at'⟩:=c
 simp only at hcal
 subst hcal
 simp only [Op.operands,Call.operands,ah,V.den]at he
 simp at he
 obtain⟨h7,h8⟩:=he
 have hc:=CD hrun hps hgk hfn hbody ht hlen hwf hh hk hg hρ hA (fun m hm=>hhp m (List.mem_cons_of_mem _ hm)) fun m hm=>hln m (List.mem_cons_of_mem _ (List.mem_append_left _ hm))
 have hwfI:=IF (m:=ρ.length) hwf hg.len
 obtain⟨r',hr1,hr2⟩:=Option.bind_eq_some_iff.1 had
 have hrn:(cd s g fn (args++cap)).hp.length≤r':=by
  have:=List.find?_some hr1
  simpa using this
 obtain⟨b',hb1,hb2⟩:=Option.map_eq_some_iff.1 hr2
 simp only [Prod.mk.injEq]at hb2
 obtain⟨rfl,rfl⟩:=hb2
 obtain⟨b2,hb3,hb4⟩:=Option.bind_eq_some_iff.1 hb1
 have hbk:b2=b'∧b'.k=.cells:=by
  unfold jT at hb4
  split at hb4
  ·rename_i hkk
   obtain rfl:b2=b':=af hb4
   exact⟨rfl,hkk⟩
  cases hb4
 obtain⟨rfl,hbk⟩:=hbk
 have hpr:hp'[r']?=some (some b2):=by
  cases hq:hp'[r']? with
  | none=>simp [hq]at hb3
  | some x=>simp [hq]at hb3;rw [hb3]
 have hlive:∀ m∈aM (args++cap),lv s.ln m=true:=fun m hm=>by
  have h1:=hwfI.stk _ (List.mem_singleton.2 rfl) (.p m 0) (by simp;exact hm)
  obtain⟨b9,hb9⟩:=cX.1 (show lv (cd s g fn (args++cap)).ln m=true by simpa [V.wf]using h1)
  exact cX.2 ⟨b9,(ec hb9).1⟩
 refine dt (by rw [hop];intro c h;cases h) ?_
 refine iM hop h7 (vs:=(ah ρf α (args++cap)).toArray) ?_ (de hen _ _) (R:=fun u W2=>Below W'.heap.size W' W2∧∃ α',u=v.den ρ α'∧(∀ m∈aM (args++cap),(α' m).b=(α m).b∧(α' m).h=(α m).h)∧St ⟨W',(aU ρ α 0 (cd s g fn (args++cap)).hp).map (·.id),fun _=>False,fun _=>False⟩ (aU ρ α' 0 hp') [] ps W2) (hc.mono fun e W2 h=>by
  obtain⟨h1,α',h2,h3⟩:=h
  exact⟨_,h2,h1,α',rfl,h3⟩) ?_
 ·exact Array.ext' (by simp [ea,h8])
 rintro u W2 ⟨hb,α',rfl,hα,hS⟩
 have hα2:∀ n,lv (cd s g fn (args++cap)).ln n=true→(α' n).b=(α n).b∧(α' n).h=(α n).h:=fun n hn=>by
  obtain⟨b,hb⟩:=cX.1 hn
  exact hα n (ec hb).2
 have hch:b2.ch ρ α' (0+r')=some ⟨(α' r').b,(ah ρ α' b2.c).toArray,b2.t⟩:=by simp only [ak.ch,hbk,Nat.zero_add]
 have hm:=dk (k:=0) hpr hch
 have hden:ah ρ α' b2.c=ah ρf α b2.c:=by
  rw [hg.len]at hwb
  rw [fG (hp:=(cd s g fn (args++cap)).ln) hα2 (List.prefix_refl ρ) b2.c hwb]
  exact(ez (hp:=(cd s g fn (args++cap)).ln) (α:=α) (α':=α) (fun _ _=>rfl) hρ b2.c hwb).symm
 have hnew:W'.heap.size≤(α' r').b:=by
  rcases hS.DF hm with h|h
  ·exact h
  exfalso
  obtain⟨e,he,hid⟩:=List.mem_map.1 h
  obtain⟨m,b0,h1,hch0⟩:=iR he
  rw [Nat.zero_add]at hch0
  have hk0:b0.k=.cells:=by
   simp only [Fs,Bool.and_eq_true]at hwf
   have:=List.all_eq_true.1 hwf.2 _ (List.mem_of_getElem? h1)
   simp only [Bool.and_eq_true,decide_eq_true_eq]at this
   exact this.2
  obtain⟨b1,h2,h3,hk',h4,h5⟩:=lL hh m b0 h1 ai
  have hmr:m≠r':=by
   have:=(List.getElem?_eq_some_iff.1 h1).1
   omega
  have hch1:b1.ch ρ α' (0+m)=some ⟨(α' m).b,(ah ρ α' b1.c).toArray,b1.t⟩:=by simp only [ak.ch,hk',hk0,Nat.zero_add]
  have hnd:((aU ρ α' 0 hp').map (·.id)).Nodup:=by
   have:=hS.nodup
   unfold bk at this
   exact(List.nodup_append.1 this).1
  have:=vw hnd hmr h2 (by rw [← Nat.zero_add m];exact hch1) hpr (by rw [← Nat.zero_add r'];exact hch)
  apply this
  show(α' m).b=(α' r').b
  rw [(hα m (ec h1).2).1,← hid]
  simp only [ak.ch,hk0]at hch0
  cases hch0
  rfl
 have hat:=hS.at_ hm
 rw [hden]at hat
 have hmade:=hA'.st.made hb hat hnew
 have hw':aW (s'.wk s'.sh s.kn) nm (v.pT r' nm) (some b2) none=true :=
  kH (s:=s) (s':=s'.wk s'.sh s.kn) hsame.lnl (hln nm (List.mem_cons_self ..)) (fun n hn=>hln n (by simp [hn])) (List.IsPrefix.length_le (by rw [hsame.sh];exact hsh)) hw
 refine F8 (s:=s'.wk s'.sh s.kn) hA' ⟨(hhp nm (List.mem_cons_self ..)).trans hnm.1,(hln nm (List.mem_cons_self ..)).trans hnm.2⟩ hbk hw' (fun a2 W3 h2=>hK a2 W3 (Oo hA.good.kn h2)) hmade fun α2 q1 q2=>?_
 have hw1:(v.pT r' nm).wf (ov s nm (some b2)) ρ.length=true:=by
  simp only [aW,Bool.and_eq_true]at hw
  rw [← hg.len];exact hw.1.1
 rw [V.qG (hp:=ov s nm (some b2)) (α:=α2) (α':=α2) (fun _ _=>rfl) hρ _ hw1]
 refine(Ct q1 (fun m hm=>?_) v hro).symm
 rw [q2 m (by
  have h1:=hlive m hm
  obtain⟨b9,hb9⟩:=cX.1 h1
  exact cX.2 ⟨b9,by show s'.ln[m]?=_;rw [hln m (List.mem_cons_of_mem _ (List.mem_append_left _ hm))];exact hb9⟩)]
 exact(hα m hm).1.symm
end
end SX
namespace SX
section
variable {C:Cx}{w0:fB}{ps:List (World→Prop)}{T T0:List TF}{R:Ending→World→Prop}{ρ ρ' ρ0:List Value}{s s0:S}{a:Act}{W:World}{α:Nat→AV}{Q:Exit→Act→World→Prop}{L:List (Cx→List Value→Prop)}
theorem aF.grow(h:aF w0 ps T ρ0 s0 a W α)(hρ:ρ0<+:ρ){sh:List Sh}{kn:List (Nat×List Nat×Value)}(hg:Good ρ (s0.wk sh kn)):aF w0 ps T ρ (s0.wk sh kn) a W α:=by
 have ha:∀ n,lv s0.ln n=true→α n=α n:=fun _ _=>rfl
 have hl:=List.IsPrefix.length_le hρ
 refine⟨h.defers,hg,⟨h.wf.fr.mono (fun _ h=>h) hl,fun f hf=>(h.wf.stk f hf).mono (fun _ h=>h) hl,h.wf.hp.mono (fun _ h=>h) hl,h.wf.ln.mono (fun _ h=>h) hl⟩,h.fm.to ha hρ h.wf.fr,h.lO.to ha hρ h.wf.stk,?_,ql ha hρ h.wf.hp h.rows,qd ha hρ h.wf.ln h.lens⟩
 show St w0 (aU ρ α 0 s0.hp) (dP a s0 T) (gZ w0 ρ α 0 s0.hp++ps) W
 rw [pY ha hρ h.wf.hp h.live]
 exact jF h.st (gq (BZ ha hρ h.wf.hp h.live))
theorem oV{o:Oper}{all:Array Oper}{g d:Nat}{want b:Bool}(hI:aF w0 ps T ρ s a W α)(hg:o.guard=some (g,want))(hd:(all[g]?).bind (·.dst)=some d)(hl:gK s d=some (.k (.bool b))):Region.wanted o (yielded all a.tmps)=(b == want):=by
 have:=jB hI.good hI.fm hl
 simp [Region.wanted,hg,yielded,hd,this,V.den]
theorem u6{o:Oper}{all:Array Oper}{g d:Nat}{want:Bool}{u:Array Value}(hI:aF w0 ps T ρ s a W α)(hg:o.guard=some (g,want))(hd:(all[g]?).bind (·.dst)=some d)(hl:gK s d=some (.k (.tuple u))):Region.wanted o (yielded all a.tmps)=false:=by
 have:=jB hI.good hI.fm hl
 simp [Region.wanted,hg,yielded,hd,this,V.den]
theorem mH{s s':S}{d:Nat}(hk:s'.kn=s.kn)(hf:s'.fr[d]?=s.fr[d]?):gK s' d=gK s d:=by unfold gK;rw [hk,hf]
theorem Good.br(hg:Good ρ s){i:Nat}{p:List Nat}{v:Value}(hi:i<s.sh.length)(hv:p.foldl comp (ρ.getD i undef)=v):Good ρ (s.dec i p v) :=
 ⟨hg.len,hg.fit,fun e he=>by
  rcases List.mem_cons.1 he with rfl|he
  ·exact⟨by rw [← hg.len];exact hi,hv⟩
  exact hg.kn e he⟩
theorem nv{s:S}{n:Nat}(h:dg s n=true):bh s n:=by
 unfold dg at h
 split at h
 ·exact⟨by assumption,by assumption⟩
 cases h
theorem pZ{C:Cx}{w0:fB}{ps:List (World→Prop)}{ρ:List Value}{s:S}{R:Ending→World→Prop}{T0:List TF}{L:List (Cx→List Value→Prop)}{i:Nat}{b:Bool}{t:Tree}(h:VC C w0 ps T0 R L ρ (s5 C s i b t)):VC C w0 ps T0 R L ρ t:=by
 unfold s5 at h
 split at h
 ·simp [VC]at h
 exact h
def GW(C:Cx)(inl:FuncId→Bool)(sub:S→List It→Tree)(all:Array Oper)(base:Nat)(cont:S→Tree)(tail:S→List Oper→Tree)(n:Nat)(s:S)(ds:List cn)(o:Oper)(rest:List Oper):Tree :=
 match o.op.operands.toList.mapM s.ev with
  | none=>.bad 32 [o.op]
  | some vs=>match dQ C s.sh (base+ds.length) o.op vs (s.ja o.op vs)with
   | .ef v new wr=>if aW s (base+ds.length) v new wr && dg s (base+ds.length)then bG C inl sub all base cont tail n (s.dl (base+ds.length) o.dst v new wr) (ds++[⟨v,new,wr,slotsOf all o,gH s.hp o.op vs,fg o.op vs++cF (base+ds.length) v new wr⟩]) rest else .bad 33 [o.op]
   | .df q args sh mk new wr=>if dw s.ln s.sh.length args && q.wf s.ln s.sh.length && aW (s.ext sh) (base+ds.length) (bx s.sh.length sh mk) new wr && dg s (base+ds.length)then .df q args sh (bG C inl sub all base cont tail n ((s.ext sh).dl (base+ds.length) o.dst (bx s.sh.length sh mk) new wr) (ds++[⟨bx s.sh.length sh mk,new,wr,slotsOf all o,gH s.hp o.op vs,fg o.op vs++cF (base+ds.length) (bx s.sh.length sh mk) new wr⟩]) rest)else .bad 34 [o.op]
   | .br i p=>if i<s.sh.length then .br i p (s5 C s i true (bG C inl sub all base cont tail n (s.dec i p (.bool true)) ds (o::rest))) (s5 C s i false (bG C inl sub all base cont tail n (s.dec i p (.bool false)) ds (o::rest)))else .bad 35 [o.op]
   | .sp i p m=>if i<s.sh.length then .sp i p ((List.range m).map fun(j:Nat)=>bG C inl sub all base cont tail n (s.dec i p (.int .i64 (j:Int))) ds (o::rest))else .bad 36 [o.op]
   | .no=>if Is C.tl vs && (wL base all.toList ds || qo base all.toList ds)then tail s (o::rest)else match o.op,vs with
    | .call c,.f (.func g) [] cap::args=>match c.callee,C.P.funcs[g]?,enters C.P g && inl g with
     | .value _,some fn,true=>match fn.body with
      | some body=>if(args++cap).length≤fn.ntmps && Fs (cd s g fn (args++cap))then
       match sub (cd s g fn (args++cap)) [.code body,.top fn]with
       | .ret v hp' stk'=>if jg [] iz 0 (cd s g fn (args++cap)).hp hp' && nn (cd s g fn (args++cap)).stk stk' && v.wf (cd s g fn (args++cap)).ln s.sh.length then bG C inl sub all base cont tail n (s.put o.dst v) (ds++[⟨v,none,none,slotsOf all o,aM (args++cap),aM (args++cap)⟩]) rest else match vd (cd s g fn (args++cap)) v hp' with
        | some (r,b)=>if jg [] iz 0 (cd s g fn (args++cap)).hp hp' && nn (cd s g fn (args++cap)).stk stk' && v.iD (aM (args++cap)) r && dw (cd s g fn (args++cap)).ln s.sh.length b.c && aW s (base+ds.length) (v.pT r (base+ds.length)) (some b) none && dg s (base+ds.length)then bG C inl sub all base cont tail n (s.dl (base+ds.length) o.dst (v.pT r (base+ds.length)) (some b) none) (ds++[⟨v.pT r (base+ds.length),some b,none,slotsOf all o,aM (args++cap),aM (args++cap)++cF (base+ds.length) (v.pT r (base+ds.length)) (some b) none⟩]) rest else .bad 47 [o.op]
        | none=>.bad 42 [o.op]
       | t=>match t with
        | .bad n l=>.bad (n+100) l
        | _=>.bad 43 [o.op]
       else .bad 44 [o.op]
      | none=>.bad 45 [o.op]
     | _,_,_=>.bad 37 [o.op]
    | _,_=>.bad 46 [o.op]
theorem JO{rr:Option Nat}{m:Nat}{Gk:kp}{inl:FuncId→Bool}{all:Array Oper}{base id:Nat}{cont:S→Tree}{tail:S→List Oper→Tree}(hC:C.Ok)(hps:me C w0 ps)(hrun:kr C ps m)(hgk:Gk.eO≠12)(hmix:C.P.follows .mixedOrders=true)(hI0:Inv w0 ps T ρ0 s0 a W)
 (hcont:∀ s' ρ',VC C w0 ps T0 R L ρ' (cont s')→ρ0<+:ρ'→∀ a' W',Inv w0 ps T ρ' s' a' W'→Q .normal a' W')
 (htail:∀ s' ρ' l,VC C w0 ps T0 R L ρ' (tail s' l)→ρ0<+:ρ'→(∀ c a' W',¬ Q (.panic c) a' W')∧∀ a' W',Inv w0 ps T ρ' s' a' W'→dJ rr C.P all Q l a' W') :
 ∀ (n:Nat) (s:S) (ds:List cn) (rest pre:List Oper) (ρ:List Value),all.toList=pre++rest→pre.length=ds.length→ρ0<+:ρ→VC C w0 ps T0 R L ρ (bG C inl (fun s' it=>run C Gk m 0 s' it) all base cont tail n s ds rest)→Good ρ s →
  s=(bu base (fun _=>true) 0 (pre.zip ds) s0).wk s.sh s.kn →
  (∀ (i:Nat) (o:Oper) (d:cn),(pre.zip ds)[i]?=some (o,d)→∀ ρf shf knf,ρ<+:ρf→s.sh<+:shf→qq C rr w0 ps T ρf Q all (base+i) o d ((bu base (fun _=>true) 0 ((pre.zip ds).take i) s0).wk shf knf)) →
  jd rr C.P (Code.region id all true) Q a W:=by
 intro n
 induction n with
 | zero=>intro s ds rest pre ρ _ _ _ hv;simp [bG,VC]at hv
 | succ n ih =>
  intro s ds rest pre ρ hall hlen hρ hv hg hs hh
  unfold bG at hv
  dsimp only at hv
  split at hv
  ·-- the end
   split at hv
   ·rename_i hord
    have hpre:all=pre.toArray:=by rw [← Array.toArray_toList (xs:=all),hall];simp
    subst hpre
    obtain⟨α,hA⟩:=hI0
    have hgs:Good ρ (s0.wk s.sh s.kn):=⟨hg.len,hg.fit,hg.kn⟩
    have hA':=hA.grow hρ hgs
    refine xM (base:=base) (ds:=ds) (s0:=s0.wk s.sh s.kn) hmix (af hord) (fun i o d hd=>?_) ⟨α,hA'⟩ fun a' W' h=>?_
    ·have:=hh i o d hd ρ s.sh s.kn (List.prefix_refl _) (List.prefix_refl _)
     have e2:=m5 (base:=base) (pre.zip ds) 0 i (s0.wk s.sh s.kn)
     simp only [Nat.zero_add]at e2
     rw [e2,kC]
     exact this
    refine hcont s ρ hv hρ a' W' ?_
    rw [kC,← hs]at h
    exact h
   simp [VC]at hv
  rename_i o rest
  have hnm:base+ds.length=base+(0+(pre.zip ds).length):=by simp [hlen]
  have next:∀ (d:cn) (s1 sx:S) (ρ1:List Value),s1=(s.dl (base+ds.length) o.dst d.v d.new d.wr).wk s1.sh s1.kn→ρ<+:ρ1→s.sh<+:s1.sh→sx.sh=s1.sh→Good ρ1 s1→CO C rr w0 ps T ρ1 Q all (base+ds.length) o d sx s →
   VC C w0 ps T0 R L ρ1 (bG C inl (fun s' it=>run C Gk m 0 s' it) all base cont tail n s1 (ds++[d]) rest)→jd rr C.P (Code.region id all true) Q a W:=by
   intro d s1 sx ρ1 hs1 hρ1 hsh1 hsx hg1 hH hv1
   have hz:(pre++[o]).zip (ds++[d])=pre.zip ds++[(o,d)]:=by rw [List.zip_append hlen];rfl
   refine ih s1 (ds++[d]) rest (pre++[o]) ρ1 (by rw [hall];simp) (by simp [hlen]) (hρ.trans hρ1) hv1 hg1 ?_ ?_
   ·rw [hz,jm]
    simp only [bu,if_true]
    rw [← hnm]
    have e2:((bu base (fun _=>true) 0 (pre.zip ds) s0).dl (base+ds.length) o.dst d.v d.new d.wr).wk s1.sh s1.kn=(s.dl (base+ds.length) o.dst d.v d.new d.wr).wk s1.sh s1.kn:=by
     rw [hs,mE];rfl
    rw [e2]
    exact hs1
   intro i o' d' hi ρf shf knf hρf hshf
   rw [hz]at hi ⊢
   by_cases hlt:i<(pre.zip ds).length
   ·rw [List.getElem?_append_left hlt]at hi
    rw [List.take_append_of_le_length ab]
    exact hh i o' d' hi ρf shf knf (hρ1.trans hρf) (hsh1.trans hshf)
   have hi0:i=(pre.zip ds).length:=by
    have:=(List.getElem?_eq_some_iff.1 hi).1
    simp only [List.length_append,List.length_singleton]at this
    omega
   subst hi0
   rw [List.getElem?_append_right ab,Nat.sub_self]at hi
   obtain⟨rfl,rfl⟩:o=o'∧d=d':=af hi
   rw [List.take_left' rfl]
   have:=hH ρf shf knf hρf (by rw [hsx];exact hshf)
   rw [hs]at this
   have hl:(pre.zip ds).length=ds.length:=by simp [hlen]
   rw [hl]
   exact this
  have again:∀ (i:Nat) (p:List Nat) (v:Value),i<s.sh.length→p.foldl comp (ρ.getD i undef)=v→VC C w0 ps T0 R L ρ (bG C inl (fun s' it=>run C Gk m 0 s' it) all base cont tail n (s.dec i p v) ds (o::rest))→jd rr C.P (Code.region id all true) Q a W:=by
   intro i p v hi hu hv1
   refine ih (s.dec i p v) ds (o::rest) pre ρ hall hlen hρ hv1 (hg.br hi hu) ?_ hh
   have:s.dec i p v=s.wk s.sh ((i,p,v)::s.kn):=rfl
   rw [this]
   conv=>lhs;rw [hs]
   rfl
  have put_eff:∀ v,s.put o.dst v=(s.dl (base+ds.length) o.dst v none none).wk s.sh s.kn:=fun v=>by cases o.dst<;>rfl
  have skip:(∀ (s':S) ρf a' W',s'.kn=s.kn→eI (slotsOf all o) [] [] s' s→Inv w0 ps T ρf s' a' W'→Region.wanted o (yielded all a'.tmps)=false)→VC C w0 ps T0 R L ρ (bG C inl (fun s' it=>run C Gk m 0 s' it) all base cont tail n (s.put o.dst (.k undef)) (ds++[⟨.k undef,none,none,slotsOf all o,[],[]⟩]) rest)→jd rr C.P (Code.region id all true) Q a W:=by
   intro hwant hv1
   have hsh:(s.put o.dst (.k undef)).sh=s.sh:=by cases o.dst<;>rfl
   have hkn:(s.put o.dst (.k undef)).kn=s.kn:=by cases o.dst<;>rfl
   exact next _ _ s ρ (by rw [hsh,hkn];exact put_eff _) (List.prefix_refl _) (by rw [hsh];exact List.prefix_refl _) hsh.symm ⟨by rw [hsh];exact hg.len,by rw [hsh];exact hg.fit,by rw [hkn];exact hg.kn⟩ (DG hwant hg) hv1
  have go:∀ (hwant:∀ (s':S) ρf a' W',s'.kn=s.kn→eI (slotsOf all o) [] [] s' s→Inv w0 ps T ρf s' a' W'→Region.wanted o (yielded all a'.tmps)=true),
   VC C w0 ps T0 R L ρ (GW C inl (fun s' it=>run C Gk m 0 s' it) all base cont tail n s ds o rest)→jd rr C.P (Code.region id all true) Q a W:=by
   intro hwant hv
   unfold GW at hv
   split at hv
   ·simp [VC]at hv
   rename_i vs hvs
   split at hv
   ·rename_i v new wr hpl
    split at hv
    ·rename_i hw
     simp only [Bool.and_eq_true]at hw
     have hnone:=nv hw.2
     have hsh:(s.dl (base+ds.length) o.dst v new wr).sh=s.sh:=(eL ..).sh
     have hkn:(s.dl (base+ds.length) o.dst v new wr).kn=s.kn:=(eL ..).kn
     exact next ⟨v,new,wr,slotsOf all o,gH s.hp o.op vs,fg o.op vs++cF (base+ds.length) v new wr⟩ _ s ρ rfl (List.prefix_refl _) (by rw [hsh];exact List.prefix_refl _) hsh.symm ⟨by rw [hsh];exact hg.len,by rw [hsh];exact hg.fit,by rw [hkn];exact hg.kn⟩ (Ju hg hwant hvs hpl hw.1 hnone) hv
    simp [VC]at hv
   ·rename_i q args sh mk new wr hpl
    split at hv
    ·rename_i hw
     simp only [Bool.and_eq_true]at hw
     obtain⟨⟨⟨h1,h2⟩,h3⟩,h4⟩:=hw
     simp only [VC]at hv
     obtain⟨v,hrel,hfit,hv⟩:=hv.resolve_right fun⟨_,_,hq,_⟩=>nL h2 (hq fun _=>default)
     have hsh:((s.ext sh).dl (base+ds.length) o.dst (bx s.sh.length sh mk) new wr).sh=(s.ext sh).sh:=(eL ..).sh
     have hkn:((s.ext sh).dl (base+ds.length) o.dst (bx s.sh.length sh mk) new wr).kn=s.kn:=(eL ..).kn
     have hge:=hg.ext (h:=sh) hfit
     exact next ⟨bx s.sh.length sh mk,new,wr,slotsOf all o,gH s.hp o.op vs,fg o.op vs++cF (base+ds.length) (bx s.sh.length sh mk) new wr⟩ _ (s.ext sh) (ρ++[v]) (by
      rw [hsh,hkn]
      exact mE s (s.ext sh).sh s.kn _ _ _ _ _) ⟨[v],rfl⟩ (by rw [hsh];exact⟨[sh],rfl⟩) hsh.symm ⟨by rw [hsh];exact hge.len,by rw [hsh];exact hge.fit,by rw [hkn];exact hge.kn⟩
      (Jt hC hps hg hwant hvs hpl hrel h1 h2 hfit h3 (nv h4)) hv
    simp [VC]at hv
   ·rename_i i p hpl
    split at hv
    ·rename_i hi
     simp only [VC]at hv
     obtain⟨b,hb,hbt,hbf⟩:=hv
     cases b
     ·exact again i p _ hi hb (pZ (hbf rfl))
     exact again i p _ hi hb (pZ (hbt rfl))
    simp [VC]at hv
   ·rename_i i p k hpl
    split at hv
    ·rename_i hi
     simp only [VC]at hv
     obtain⟨⟨j,hj,hu⟩,hv⟩:=hv
     have hj':j<k:=af hj
     have:=zw (j:=j) hv (t:=bG C inl (fun s' it=>run C Gk m 0 s' it) all base cont tail n (s.dec i p (.int .i64 (j:Int))) ds (o::rest)) (by simp [hj']) (by rw [hu,Nat.zero_add])
     exact again i p _ hi hu this
    simp [VC]at hv
   split at hv
   ·rename_i htl
    simp only [Bool.and_eq_true]at htl
    obtain⟨_,htl⟩:=htl
    obtain⟨hQ,h9⟩:=htail s ρ (o::rest) hv hρ
    have hpre:all=(pre++o::rest).toArray:=by rw [← Array.toArray_toList (xs:=all),hall]
    subst hpre
    obtain⟨α,hA⟩:=hI0
    have hgs:Good ρ (s0.wk s.sh s.kn):=⟨hg.len,hg.fit,hg.kn⟩
    have hA':=hA.grow hρ hgs
    have hz:(pre++o::rest).zip ds=pre.zip ds:=by
     rw [← List.append_nil ds,List.zip_append hlen];simp
    simp only [Bool.or_eq_true]at htl
    rcases htl with htl|htl
    ·refine Dv (base:=base) (ds:=ds) (s0:=s0.wk s.sh s.kn) hmix hQ (af htl) (fun i o d hd=>?_) ⟨α,hA'⟩ fun a' W' h=>?_
     ·rw [hz]at hd ⊢
      have:=hh i o d hd ρ s.sh s.kn (List.prefix_refl _) (List.prefix_refl _)
      have e2:=m5 (base:=base) (pre.zip ds) 0 i (s0.wk s.sh s.kn)
      simp only [Nat.zero_add]at e2
      rw [e2,kC]
      exact this
     rw [hz,kC,← hs]at h
     simpa [← hlen]using h9 a' W' h
    refine Ad (base:=base) (ds:=ds) (s0:=s0.wk s.sh s.kn) hmix hQ (af htl) (fun i o d hd=>?_) ⟨α,hA'⟩ fun a' W' h=>?_
    ·rw [hz]at hd ⊢
     have:=hh i o d hd ρ s.sh s.kn (List.prefix_refl _) (List.prefix_refl _)
     have e2:=m5 (base:=base) (pre.zip ds) 0 i (s0.wk s.sh s.kn)
     simp only [Nat.zero_add]at e2
     rw [e2,kC]
     exact this
    rw [hz,kC,← hs]at h
    simpa [← hlen]using h9 a' W' h
   split at hv
   ·rename_i c g cap args hop _ _
    split at hv
    ·rename_i f fn hcal hfn hen
     split at hv
     ·rename_i body hbody
      split at hv
      ·rename_i hw
       simp only [Bool.and_eq_true,decide_eq_true_eq]at hw hen
       split at hv
       ·rename_i v hp' stk' ht
        split at hv
        ·rename_i hc
         simp only [Bool.and_eq_true]at hc
         have hsh:(s.put o.dst v).sh=s.sh:=by cases o.dst<;>rfl
         have hkn:(s.put o.dst v).kn=s.kn:=by cases o.dst<;>rfl
         exact next ⟨v,none,none,slotsOf all o,aM (args++cap),aM (args++cap)⟩ _ s ρ (by rw [hsh,hkn];exact put_eff _) (List.prefix_refl _) (by rw [hsh];exact List.prefix_refl _) hsh.symm ⟨by rw [hsh];exact hg.len,by rw [hsh];exact hg.fit,by rw [hkn];exact hg.kn⟩
          (Gj hrun hps hgk hg hwant hvs hop hcal hen.1 hfn hbody ht hw.1 hw.2 hc.1.1 hc.1.2 hc.2) hv
        split at hv
        ·rename_i r b had
         split at hv
         ·rename_i hc
          simp only [Bool.and_eq_true]at hc
          obtain⟨⟨⟨⟨⟨c1,c2⟩,c3⟩,c4⟩,c5⟩,c6⟩:=hc
          have hsh:(s.dl (base+ds.length) o.dst (v.pT r (base+ds.length)) (some b) none).sh=s.sh:=by cases o.dst<;>rfl
          have hkn:(s.dl (base+ds.length) o.dst (v.pT r (base+ds.length)) (some b) none).kn=s.kn:=by cases o.dst<;>rfl
          exact next ⟨v.pT r (base+ds.length),some b,none,slotsOf all o,aM (args++cap),aM (args++cap)++cF (base+ds.length) (v.pT r (base+ds.length)) (some b) none⟩ _ s ρ (by rw [hsh,hkn];cases o.dst<;>rfl) (List.prefix_refl _) (by rw [hsh];exact List.prefix_refl _) hsh.symm ⟨by rw [hsh];exact hg.len,by rw [hsh];exact hg.fit,by rw [hkn];exact hg.kn⟩
           (Gm hrun hps hgk hg hwant hvs hop hcal hen.1 hfn hbody ht hw.1 hw.2 c1 c2 had c3 c4 c5 (nv c6)) hv
         simp [VC]at hv
        simp [VC]at hv
       split at hv<;>simp [VC]at hv
      simp [VC]at hv
     simp [VC]at hv
    simp [VC]at hv
   simp [VC]at hv
  split at hv
  ·rename_i hgd
   exact go (fun s' ρf a' W' _ _ _=>by simp [Region.wanted,hgd]) hv
  rename_i g want hgd
  split at hv
  ·simp [VC]at hv
  rename_i d hd
  have hds:d∈slotsOf all o:=by simp [slotsOf,hgd,hd]
  split at hv
  ·rename_i u hl
   exact skip (fun s' ρf a' W' hk hag ⟨α,hA⟩=>u6 hA hgd hd (by rw [mH hk (hag.fr d hds)];exact hl)) hv
  ·rename_i b hl
   split at hv
   ·rename_i hb
    exact go (fun s' ρf a' W' hk hag ⟨α,hA⟩=>(oV hA hgd hd (by rw [mH hk (hag.fr d hds)];exact hl)).trans hb) hv
   rename_i hb
   exact skip (fun s' ρf a' W' hk hag ⟨α,hA⟩=>(oV hA hgd hd (by rw [mH hk (hag.fr d hds)];exact hl)).trans (af hb)) hv
  ·rename_i i p hl
   split at hv
   ·rename_i hi
    simp only [VC]at hv
    obtain⟨b,hb,hbt,hbf⟩:=hv
    cases b
    ·exact again i p _ hi hb (pZ (hbf rfl))
    exact again i p _ hi hb (pZ (hbt rfl))
   simp [VC]at hv
  simp [VC]at hv
end
end SX
namespace SX
variable (C:Cx)(N:List Arg)
theorem rI:dQ (C.plus N)=dQ C:=by cases C;kernel_rfl
theorem AB:ri (C.plus N)=ri C:=by cases C;kernel_rfl
theorem DE:DD (C.plus N)=DD C:=by cases C;kernel_rfl
theorem Dr:s5 (C.plus N)=s5 C:=by cases C;kernel_rfl
theorem Ds:xK (C.plus N)=xK C:=by cases C;kernel_rfl
theorem td(inl:FuncId→Bool)(sub:S→List It→Tree)(all:Array Oper)(base:Nat)(cont:S→Tree)(tail:S→List Oper→Tree):∀ n,bG (C.plus N) inl sub all base cont tail n=bG C inl sub all base cont tail n:=by
 intro n
 induction n with
 | zero=>rfl
 | succ n ih =>
  funext s ds ops
  unfold bG
  simp only [ih,rI,Dr]
  rfl
theorem wh:bG (C.plus N)=bG C:=by
 funext inl sub all base cont tail n
 exact td C N inl sub all base cont tail n
theorem jE:∀ (n:Nat)(G:kp)(lv:Nat)(s:S)(items:List It),run (C.plus N) G n lv s items=run C G n lv s items:=by
 intro n
 induction n with
 | zero=>intro G lv s items;rfl
 | succ n ih =>
  have e:∀ G,run (C.plus N) G n=run C G n:=fun G=>funext fun lv=>funext fun s=>funext fun items=>ih G lv s items
  intro G lv s items
  unfold run
  simp only [e,rI,AB,DE,Ds,wh]
  rfl
end SX
end Go.Proofs.YtidekfgkpindbaaGreatDoor
