/-
  Texts behind the statement, part 2.
-/
import Derived.Test.YtidekfgkpindbaaGreatDoorQC1
set_option linter.unusedSimpArgs false
set_option linter.unusedVariables false
namespace Go.Proofs.YtidekfgkpindbaaGreatDoor
open Go Go.RowKit
namespace SX
def S.dl(s:S)(nm:Nat)(dst:Option Tmp)(v:V)(new:Option ak)(wr:Option (Nat×ak)):S :=
 (match wr with
  | some (n,b)=>(match new with
   | some c=>s.make nm c
   | none=>s).lay n b
  | none=>match new with
   | some c=>s.make nm c
   | none=>s).put dst v
def ov(s:S)(nm:Nat)(new:Option ak):List (Option ak):=match new with
 | some b=>s.ln.set nm (some b)
 | none=>s.ln
def aW(s:S)(nm:Nat)(v:V)(new:Option ak)(wr:Option (Nat×ak)):Bool:=v.wf (ov s nm new) s.sh.length && (match new with
 | some b=>dw s.ln s.sh.length b.c
 | none=>true) && (match wr with
 | some (n,b)=>dw s.ln s.sh.length b.c && lv s.ln n
 | none=>true)
theorem cN{ρ:List Value}{s:S}(hg:Good ρ s){α:Nat→AV}{a:Act}(hf:Fm ρ α s.fr a.tmps):∀ {xs:List Operand}{vs:List V},xs.mapM s.ev=some vs→xs.map a.eval=ah ρ α vs
 | [],vs,h=>by
  simp at h
  subst h
  rfl
 | x::xs,vs,h=>by
  simp only [List.mapM_cons,Option.bind_eq_bind,Option.bind_eq_some_iff]at h
  obtain⟨v,hv,vs',hvs,h⟩:=h
  simp at h
  subst h
  simp [ah,ox hg hf hv,cN hg hf hvs]
section
variable {C:Cx}{w0:fB}{ps:List (World→Prop)}{T:List TF}{ρ:List Value}{s:S}{a:Act}{W:World}{α:Nat→AV}{K:Act→World→Prop}{Q:Exit→Act→World→Prop}{o:Oper}{nm:Nat}
theorem aB{v:V}(hI:aF w0 ps T ρ s a W α)(hw:aW s nm v none none=true)(hK:∀ a' W',Inv w0 ps T ρ (s.dl nm o.dst v none none) a' W'→K a' W'):K (a.put o.dst (v.den ρ α)) W :=
 hK _ _ ⟨α,hI.put o.dst (by have:=hw;simp only [aW,ov,Bool.and_true,hI.good.len]at this;exact this)⟩
theorem jY{v:V}{b:ak}(hI:aF w0 ps T ρ s a W α)(hnm:bh s nm)(hk:b.k=.cells)(hw:aW s nm v (some b) none=true)(hK:∀ a' W',Inv w0 ps T ρ (s.dl nm o.dst v (some b) none) a' W'→K a' W')
 {k:Nat} {W':World} (hS:St w0 (⟨k,(ah ρ α b.c).toArray,b.t⟩::aU ρ α 0 s.hp) (dP a s T) (gZ w0 ρ α 0 s.hp++ps) W') {u:Value} (hu:∀ α',(α' nm).b=k→u=v.den ρ α'):K (a.put o.dst u) W':=by
 simp only [aW,ov,Bool.and_eq_true,Bool.and_true,hI.good.len]at hw
 obtain⟨α',h1,h2,h3⟩:=hI.new hnm hk hw.2 hS
 exact hK _ _ ⟨α',h3.fN o.dst hw.1 (hu α' h1)⟩
theorem gR{v:V}{b:ak}(hI:aF w0 ps T ρ s a W α)(hnm:bh s nm)(hbo:b.own=true)(hw:aW s nm v (some b) none=true)(hK:∀ a' W',Inv w0 ps T ρ (s.dl nm o.dst v (some b) none) a' W'→K a' W')
 (A:AV) {W':World} (hS:∀ α',α' nm=A→(∀ n,lv s.ln n=true→α' n=α n)→ah ρ α' b.c=ah ρ α b.c→aU ρ α' 0 s.hp=aU ρ α 0 s.hp→St w0 (aU ρ α' 0 (s.hp.set nm (some b))) (dP a s T) (gZ w0 ρ α 0 s.hp++ps) W'∧b.bB ρ α' nm) {u:Value} (hu:∀ α',α' nm=A→u=v.den ρ α'):K (a.put o.dst u) W':=by
 simp only [aW,ov,Bool.and_eq_true,Bool.and_true,hI.good.len]at hw
 obtain⟨α',h1,h2,h3⟩:=hI.GL hnm hw.2 A fun α' q1 q2 q3 q4=>by
  have:=hS α' q1 q2 q3 q4
  rw [ak.kR hbo]
  exact this
 exact hK _ _ ⟨α',h3.fN o.dst hw.1 (hu α' h1)⟩
theorem jX{v:V}{b:ak}{sz:Nat}(hI:aF w0 ps T ρ s a W α)(hnm:bh s nm)(hk:b.k=.ext sz)(hw:aW s nm v (some b) none=true)(hK:∀ a' W',Inv w0 ps T ρ (s.dl nm o.dst v (some b) none) a' W'→K a' W')
 (A:AV) {W':World} (hS:St w0 (aU ρ α 0 s.hp) (dP a s T) (gZ w0 ρ α 0 s.hp++ps) W') (h0:0<sz) (hl:∃ ad len cap,A.h=.slice ad len cap∧(b.xs ρ α).length=len*sz∧len≤cap∧(0<len→ad.isSome=true)) (hx:∀ W2,bp (bk (aU ρ α 0 s.hp) (dP a s T)) W' W2→jW w0 ⟨A.h,sz,b.xs ρ α⟩ W2) {u:Value} (hu:∀ α',α' nm=A→(∀ n,lv s.ln n=true→α' n=α n)→u=v.den ρ α'):K (a.put o.dst u) W':=by
 simp only [aW,ov,Bool.and_eq_true,Bool.and_true,hI.good.len]at hw
 obtain⟨α',h1,h2,h3⟩:=hI.LK hnm hk hw.2 A hS h0 hl hx
 exact hK _ _ ⟨α',h3.fN o.dst hw.1 (hu α' h1 h2)⟩
theorem gI{v:V}{n:Nat}{b b':ak}(hI:aF w0 ps T ρ s a W α)(hn:s.hp[n]?=some (some b))(hr:b'.bB ρ α n)(hbo:b'.own=true)(hw:aW s nm v none (some (n,b'))=true)(hK:∀ a' W',Inv w0 ps T ρ (s.dl nm o.dst v none (some (n,b'))) a' W'→K a' W')
 {W':World} (hS:St w0 (aU ρ α 0 (s.hp.set n (some b'))) (dP a s T) (gZ w0 ρ α 0 s.hp++ps) W') {u:Value} (hu:u=v.den ρ α):K (a.put o.dst u) W':=by
 simp only [aW,ov,Bool.and_eq_true,Bool.and_true,hI.good.len]at hw
 refine hK _ _ ⟨α,(hI.PP hn hw.2.1 hr hbo hS).fN o.dst hw.1 hu⟩
theorem aq(ρ:List Value)(α:Nat→AV)(l:List V):(ah ρ α l).length=l.length:=by rw [aE];simp
theorem dC{ρ:List Value}{α:Nat→AV}{l:List V}{i:Nat}{v:V}(h:l[i]?=some v):(ah ρ α l)[i]?=some (v.den ρ α):=by rw [aE];simp [h]
theorem cz(ρ:List Value)(α:Nat→AV)(l:List V)(i n:Nat):ah ρ α ((l.drop i).take n)=((ah ρ α l).drop i).take n:=by simp [aE,List.map_drop,List.map_take]
theorem ea(ρ:List Value)(α:Nat→AV)(l m:List V):ah ρ α (l++m)=ah ρ α l++ah ρ α m:=by simp [aE]
theorem vF(c:List Value)(o n:Nat):c.toArray.extract o (o+n)=((c.drop o).take n).toArray:=by
 apply Array.ext'
 simp [List.take_drop]
theorem oF{ρ:List Value}{s:S}(hg:Good ρ s){sh:List Sh}(hsh:sh<+:s.sh)(α:Nat→AV):∀ {v:V},v.one sh=true→(v.den ρ α).oneCell'=true
 | .k v,h=>h
 | .x i path,h=>by
  simp only [V.one]at h
  split at h
  ·rename_i hh hs
   obtain⟨r,hr⟩:=hsh
   exact qZ path hh _ h (hg.fit i hh (by rw [← hr,List.getElem?_append_left (List.getElem?_eq_some_iff.1 hs).1];exact hs))
  cases h
 | .p _ _,_=>rfl
 | .sl _ _ _ _,_=>rfl
 | .a _,h=>by simp [V.one]at h
 | .t _,h=>by simp [V.one]at h
 | .f _ _ _,_=>rfl
 | .ep s i sz o,_=>by
  simp only [V.den]
  unfold zp
  split<;>rfl
 | .ifc _ _,_=>rfl
 | .pt _ _ _ _,h=>by simp [V.one]at h
 | .row _,h=>by simp [V.one]at h
 | .cat _,h=>by simp [V.one]at h
 | .y _,_=>rfl
 | .mapV _,_=>rfl
theorem lG{ρ:List Value}{α:Nat→AV}{v:V}(h:v.tX=true∨(v.den ρ α).oneCell'=true):(v.den ρ α).cells=(ah ρ α v.cells).toArray:=by
 cases v<;>simp [V.tX,V.den,V.cells,ah,Value.oneCell']at * <;> try rfl
 ·rename_i w;cases w<;>simp [Value.oneCell']at h<;>rfl
 ·rename_i i p
  generalize List.foldl comp (ρ[i]?.getD undef) p=w at *
  cases w<;>simp [Value.oneCell']at h<;>rfl
 ·unfold zp;split<;>rfl
 ·rename_i n
  generalize (α n).h=w at *
  cases w<;>simp [Value.oneCell']at h<;>rfl
 rename_i s i up sz
 generalize Mp (s.den ρ α) (i.den ρ α) up sz=w at *
 cases w<;>simp [Value.oneCell']at h<;>rfl
theorem qj{ρ:List Value}{s:S}(hg:Good ρ s){sh:List Sh}(hsh:sh<+:s.sh)(α:Nat→AV){cs:List V}(h:pN sh cs=true):(ah ρ α cs).toArray.all (·.oneCell')=true:=by
 rw [Array.all_eq_true_iff_forall_mem]
 intro u hu
 rw [aE]at hu
 simp only [List.mem_toArray,List.mem_map]at hu
 obtain⟨v,hv,rfl⟩:=hu
 exact oF hg hsh α (List.all_eq_true.1 h v hv)
theorem Kz(ρ:List Value)(α:Nat→AV)(l:List Value):ah ρ α (l.map .k)=l:=by
 rw [aE,List.map_map];exact(List.map_congr_left fun x _=>by simp [V.den]).trans (List.map_id l)
theorem r8(ρ:List Value)(α:Nat→AV)(c cs:List V)(o:Nat):(ah ρ α (cl c o cs)).toArray=cO (ah ρ α c).toArray o (ah ρ α cs).toArray:=by
 simp [cl,cO,aE,List.map_drop,List.map_take]
theorem lh{c:List Value}{o:Nat}{v:Value}(h:o<c.length):(Ib c o v).toArray=cO c.toArray o #[v]:=by
 rw [wG]
 unfold cO
 simp [List.set_eq_take_append_cons_drop,h]
theorem tk{P:Program}{x:Operand}{t:TypeId}{f d:Nat}{ad:Addr}(ho:o.op=.fieldAddr t x f)(hx:a.eval x=.pointer (some ad))(hd:js P t f=some d)(h:K (a.put o.dst (.pointer (some (ad.add d)))) W):o.wp P a W K Q:=by
 unfold js at hd
 cases hu:P.underlying t with
 | none=>simp [hu]at hd
 | some ds =>
  rw [hu]at hd
  cases ds<;>simp at hd
  rename_i fs
  cases hf:fs[f]? with
  | none=>simp [hf]at hd
  | some fd =>
   simp only [hf]at hd
   cases hz:aT P fd.type with
   | none=>simp [hz]at hd
   | some n =>
    rw [hz]at hd
    cases n with
    | zero=>simp at hd
    | succ n =>
     obtain rfl:fd.offset=d:=af hd
     unfold Oper.wp execOp
     simp only [ho,hx,Instr.fieldAt,Instr.sureAddr,Sem.run_bind,run_underlying hu,Result.andThen_ok,hf,Sem.run_pure,fieldPlace,cv hz]
     simp only [Nat.add_one_ne_zero,if_false,Sem.run_pure,Result.andThen_ok]
     exact h
theorem bi{P:Program}{u:Value}(hr:(execOp a.eval o).run P W=.ok (.value u) W)(h:K (a.put o.dst u) W):o.wp P a W K Q:=by
 unfold Oper.wp
 rw [hr]
 exact h
theorem rY{q:cZ}{f:Value→Option Value}{x v:V}{new:Option ak}{wr:Option (Nat×ak)}(h:H8 q f x=.ef v new wr):∃ c u,x=.k c∧f c=some u∧u.oneCell'=true∧v=.k u∧new=none∧wr=none:=by
 unfold H8 at h
 split at h
 ·split at h
  ·rename_i u hu
   split at h
   ·rename_i h1
    injection h with h2 h3 h4
    exact⟨_,_,rfl,hu,h1,h2.symm,h3.symm,h4.symm⟩
   cases h
  cases h
 cases h
theorem wE{q:cZ}{f:Value→Value→Option Value}{x y v:V}{new:Option ak}{wr:Option (Nat×ak)}(h:IU q f x y=.ef v new wr):∃ c d u,x=.k c∧y=.k d∧f c d=some u∧u.oneCell'=true∧v=.k u∧new=none∧wr=none:=by
 unfold IU at h
 split at h
 ·split at h
  ·rename_i c d u hu
   split at h
   ·rename_i h1
    injection h with h2 h3 h4
    exact⟨_,_,_,rfl,rfl,hu,h1,h2.symm,h3.symm,h4.symm⟩
   cases h
  cases h
 cases h
theorem y3{P:Program}{neq:Bool}{t t' e:TypeId}{x y:Operand}{A:Option Addr}{n c:Nat}(hop:o.op=.binOp (if neq then .neq else .eql) t x y t')(hx:a.eval x=.slice A n c)(hy:a.eval y=.slice none 0 0)(ht:P.underlying t=some (.slice e)):(execOp a.eval o).run P W=.ok (.value (.bool (neq ^^ A.isNone))) W:=by
 have h0:∀ d:Nat,(Op.equalIn (d+1) t (.slice A n c) (.slice none 0 0)).run P W=.ok A.isNone W:=fun d=>by
  cases A<;>simp [Op.equalIn,run_underlying ht]
 have h1:=h0 9999
 cases neq<;>simp [execOp,hop,hx,hy,eqGuard,binOp,Op.equal,Op.maxDepth,h1]
theorem yR{P:Program}{op:BinOp}{t t':TypeId}{x y:Operand}{c d u:Value}(hop:o.op=.binOp op t x y t')(hx:a.eval x=c)(hy:a.eval y=d)(ht:qb P t=true)(hu:BR op c d=some u):(execOp a.eval o).run P W=.ok (.value u) W:=by
 unfold BR at hu
 split at hu
 ·rename_i p q
  have h1:=run_equalIn_bool (P:=P) W 9999 t p q (Ao ht)
  split at hu
  ·injection hu with hu
   subst hu
   simp [execOp,hop,hx,hy,eqGuard,binOp,Op.equal,Op.maxDepth,h1]
  ·injection hu with hu
   subst hu
   simp [execOp,hop,hx,hy,eqGuard,binOp,Op.equal,Op.maxDepth,h1]
  cases hu
 cases hu
theorem Cu{P:Program}{op:BinOp}{t t':TypeId}{x y:Operand}{c d u:Value}(hop:o.op=.binOp op t x y t')(hx:a.eval x=c)(hy:a.eval y=d)(hu:aZ op c d=some u):(execOp a.eval o).run P W=.ok (.value u) W:=by
 unfold aZ at hu
 split at hu
 ·rename_i k i k' j
  split at hu
  ·split at hu
   ·cases hu
   rename_i hj
   injection hu with hu
   subst hu
   simp [execOp,hop,hx,hy,eqGuard,binOp,Op.shift,hj]
  ·split at hu
   ·cases hu
   rename_i hj
   injection hu with hu
   subst hu
   simp [execOp,hop,hx,hy,eqGuard,binOp,Op.shift,hj]
  split at hu
  ·rename_i hk
   subst hk
   split at hu
   ·split at hu
    ·cases hu
    rename_i hj
    injection hu with hu
    subst hu
    simp [execOp,hop,hx,hy,eqGuard,binOp,Op.intDiv,hj]
   ·split at hu
    ·cases hu
    rename_i hj
    injection hu with hu
    subst hu
    simp [execOp,hop,hx,hy,eqGuard,binOp,Op.intDiv,hj]
   ·injection hu with hu
    subst hu
    simp [execOp,hop,hx,hy,eqGuard,binOp,Op.intBits]
   ·injection hu with hu
    subst hu
    simp [execOp,hop,hx,hy,eqGuard,binOp,Op.intBits]
   ·injection hu with hu
    subst hu
    simp [execOp,hop,hx,hy,eqGuard,binOp,Op.intBits]
   cases op<;>simp only [om,Option.some.injEq,reduceCtorEq]at hu<;>subst hu<;>simp [execOp,hop,hx,hy,eqGuard,binOp,Op.intArith,Op.intCmp]
  cases hu
 ·rename_i p q
  split at hu
  ·injection hu with hu
   subst hu
   simp [execOp,hop,hx,hy,eqGuard,binOp,Op.stringOp,tC (p:=p) (q:=q) (B:=decide (p=q)) ai]
  ·injection hu with hu
   subst hu
   simp [execOp,hop,hx,hy,eqGuard,binOp,Op.stringOp,tC (p:=p) (q:=q) (B:=decide (p=q)) ai]
  cases hu
 cases hu
theorem Cz{P:Program}{t:TypeId}{x:Operand}{c u:Value}(hop:o.op=.unOp .not t x)(hx:a.eval x=c)(hu:JL c=some u):(execOp a.eval o).run P W=.ok (.value u) W:=by
 unfold JL at hu
 split at hu
 ·injection hu with hu
  subst hu
  simp [execOp,hop,hx,Op.unary]
 cases hu
theorem Cy{P:Program}{t:TypeId}{x:Operand}{c u:Value}(hop:o.op=.unOp .neg t x)(hx:a.eval x=c)(hu:DR c=some u):(execOp a.eval o).run P W=.ok (.value u) W:=by
 unfold DR at hu
 split at hu
 ·injection hu with hu
  subst hu
  simp [execOp,hop,hx,Op.unary,Op.intArith]
 cases hu
theorem J2{P:Program}{t:TypeId}{x:Operand}{c u:Value}(hop:o.op=.unOp .xor t x)(hx:a.eval x=c)(hu:Jd c=some u):(execOp a.eval o).run P W=.ok (.value u) W:=by
 unfold Jd at hu
 split at hu
 ·injection hu with hu
  subst hu
  simp [execOp,hop,hx,Op.unary,Op.intBits]
 cases hu
theorem yS{P:Program}{src dst:TypeId}{x:Operand}{c u:Value}{ks k:IntKind}(hop:o.op=.convert src dst x)(hx:a.eval x=c)(hs:P.underlying src=some (.int ks))(hd:P.underlying dst=some (.int k))(hu:fF k c=some u):(execOp a.eval o).run P W=.ok (.value u) W:=by
 unfold fF at hu
 split at hu
 ·injection hu with hu
  subst hu
  simp [execOp,hop,hx,convert,run_underlying hs,run_underlying hd,Conv.intToInt]
 cases hu
theorem tT{ρ:List Value}{s:S}(hg:Good ρ s)(α:Nat→AV){place:Nat→Option (Nat×Nat)}:∀ {l:List (Nat×V)}{c cs:List V},(∀ e∈l,e.2.tX=true∨(e.2.den ρ α).oneCell'=true)→xR place c l=some cs →
 Instr.fill place (ah ρ α c).toArray ((l.map (·.1)).zip (ah ρ α (l.map (·.2))))=some (ah ρ α cs).toArray
 | [],c,cs,_,h=>by
  obtain rfl:c=cs:=by simpa [xR]using h
  simp [ah,Instr.fill]
 | (i,v)::l,c,cs,h1,h=>by
  unfold xR at h
  split at h
  ·rename_i off sz hp
   split at h
   ·rename_i hc
    obtain⟨rfl,h2⟩:=hc
    have hv:=lG (ρ:=ρ) (α:=α) (h1 (i,v) (List.mem_cons_self ..))
    have hsz:(v.den ρ α).cells.size=v.cells.length:=by rw [hv];simp [aq]
    simp only [List.map_cons,ah,List.zip_cons_cons]
    rw [pb (off:=off) (by rw [hsz];exact hp) (by rw [hsz];simpa [aq]using h2),hv,← r8]
    exact tT hg α (fun e he=>h1 e (List.mem_cons_of_mem _ he)) h
   cases h
  cases h
theorem yB{P:Program}{t:TypeId}{pl:Nat→Option (Nat×Nat)}{z:Array Value}{parts:List (Nat×Value)}(hpl:placeOf P t=some pl)(hz:zeroOf P t=some (.agg z)):P.built t parts=Instr.fill pl z parts:=by
 unfold placeOf at hpl
 split at hpl
 ·simp only [Option.map_eq_some_iff]at hpl
  obtain⟨l,hl,rfl⟩:=hpl
  rw [vq hl hz]
  simp [Value.cells]
 ·rename_i n e hu
  simp only [Option.map_eq_some_iff]at hpl
  obtain⟨sz,hs,rfl⟩:=hpl
  unfold zeroOf at hz
  unfold aT at hs
  unfold Program.built
  cases hq:P.info? t with
  | none=>simp [hq]at hz
  | some i =>
   cases hqe:P.info? e with
   | none=>simp [hqe]at hs
   | some ie =>
    have hz':i.zero=some (.agg z):=by simpa [hq]using hz
    have hs':ie.size=sz:=by simpa [hqe]using hs
    simp [hu,hz',hqe,hs',Value.cells]
 cases hpl
theorem qP{ρ:List Value}{α:Nat→AV}:∀ {vs:List V},(∀ v∈vs,v.tX=true∨(v.den ρ α).oneCell'=true)→pd (ah ρ α vs)=ah ρ α (vs.flatMap V.cells)
 | [],_=>rfl
 | v::vs,h=>by
  simp only [ah,pd,List.flatMap_cons,ea]
  rw [lG (h v (List.mem_cons_self ..)),qP fun u hu=>h u (List.mem_cons_of_mem _ hu)]
theorem GB{P:Program}{ats:Array TypeId}{str:Bool}(h:(ats[0]?).bind (s7 P)=some str):∃ t,ats[0]?=some t∧((str=true∧P.underlying t=some .string)∨(str=false∧∃ e,P.underlying t=some (.slice e))):=by
 cases hq:ats[0]? with
 | none=>simp [hq]at h
 | some t =>
  rw [hq]at h
  refine⟨t,rfl,?_⟩
  simp only [Option.bind_some,s7]at h
  split at h
  ·rename_i hu
   exact .inl ⟨by simpa using h.symm,hu⟩
  ·rename_i e hu
   exact .inr ⟨by simpa using h.symm,e,hu⟩
  cases h
theorem qm{P:Program}{c:Call}{str:Bool}{x u:Value}(hop:o.op=.call c)(hc:c.callee=.builtin .len)(hs:(c.argTypes[0]?).bind (s7 P)=some str)(ha:c.args.map a.eval=#[x])(hu:DK str x=some u):(execOp a.eval o).run P W=.ok (.value u) W:=by
 obtain⟨t,ht,hh⟩:=GB hs
 rcases hh with ⟨rfl,hp⟩|⟨rfl,e,hp⟩
 ·cases x<;>simp [DK]at hu
  subst hu
  simp [execOp,hop,resolve,hc,invoke,builtin,ha,Builtin.len_,ht,run_underlying hp,goInt]
 cases x<;>simp [DK]at hu
 subst hu
 simp [execOp,hop,resolve,hc,invoke,builtin,ha,Builtin.len_,ht,run_underlying hp,goInt]
theorem wC{P:Program}{c:Call}{x u:Value}(hop:o.op=.call c)(hc:c.callee=.builtin .cap)(hs:(c.argTypes[0]?).bind (s7 P)=some false)(ha:c.args.map a.eval=#[x])(hu:Jw x=some u):(execOp a.eval o).run P W=.ok (.value u) W:=by
 obtain⟨t,ht,hh⟩:=GB hs
 rcases hh with ⟨hf,hp⟩|⟨_,e,hp⟩
 ·cases hf
 cases x<;>simp [Jw]at hu
 subst hu
 simp [execOp,hop,resolve,hc,invoke,builtin,ha,Builtin.cap_,ht,run_underlying hp,goInt]
theorem Cw{P:Program}{c:Call}{x y u:Value}(hop:o.op=.call c)(hc:c.callee=.builtin .min)(ha:c.args.map a.eval=#[x,y])(hu:Az x y=some u):(execOp a.eval o).run P W=.ok (.value u) W:=by
 unfold Az at hu
 split at hu
 ·split at hu
  ·rename_i hk
   subst hk
   injection hu with hu
   subst hu
   simp [execOp,hop,resolve,hc,invoke,builtin,ha,Builtin.min_,Builtin.min2,JF]
  cases hu
 cases hu
theorem Cv{P:Program}{c:Call}{x y u:Value}(hop:o.op=.call c)(hc:c.callee=.builtin .max)(ha:c.args.map a.eval=#[x,y])(hu:yk x y=some u):(execOp a.eval o).run P W=.ok (.value u) W:=by
 unfold yk at hu
 split at hu
 ·split at hu
  ·rename_i hk
   subst hk
   injection hu with hu
   subst hu
   simp [execOp,hop,resolve,hc,invoke,builtin,ha,Builtin.max_,Builtin.max2,JE]
  cases hu
 cases hu
theorem J1{P:Program}{y:Nat}{v:Value}{n:Nat}{code:BoundsCode}(h:iN y v=some n):(Instr.sliceBound v y code).run P W=.ok n W:=by
 unfold iN at h
 split at h
 ·split at h
  ·rename_i hc
   injection h with h
   subst h
   simp [Instr.sliceBound,asIntOf,hc]
  cases h
 cases h
theorem mR{P:Program}{b:Bool}{len cap:Nat}{lo hi mx:Option Value}{r:Nat×Nat×Nat}(h:b7 len cap lo hi mx=some r):(Instr.sliceBounds b len cap lo hi mx).run P W=.ok r W:=by
 unfold b7 at h
 simp only [Option.bind_eq_some_iff]at h
 obtain⟨m,hm,h1,hh,l,hl,e⟩:=h
 injection e with e
 subst e
 unfold Instr.sliceBounds
 cases mx<;>cases hi<;>cases lo<;>simp only [Option.some.injEq,reduceCtorEq]at hm hh hl<;>(try subst hm)<;>(try subst hh)<;>(try subst hl)<;>simp [Sem.run_bind,J1, *]
def iY(a:Act)(lo hi mx:Option Operand):Option Value×Option Value×Option Value:=(lo.map a.eval,hi.map a.eval,mx.map a.eval)
theorem uk{lo hi mx:Option Operand}{vs:List Value}{r:Option Value×Option Value×Option Value}(hv:(lo.toArray++hi.toArray++mx.toArray).toList.map a.eval=vs)(h:jC lo.isSome hi.isSome mx.isSome vs=some r):iY a lo hi mx=r:=by
 subst hv
 unfold iY
 cases lo<;>cases hi<;>cases mx<;>simp [jC]at h ⊢<;>exact h
theorem tZ{ρ:List Value}{α:Nat→AV}:∀ {bs:List V}{vs:List Value},qX bs=some vs→ah ρ α bs=vs
 | [],vs,h=>by simp [qX]at h;subst h;rfl
 | v::bs,vs,h=>by
  cases v<;>simp [qX]at h
  obtain⟨l,hl,rfl⟩:=h
  simp [ah,V.den,tZ hl]
theorem uE{ρ:List Value}{α:Nat→AV}{t:TypeId}{xo:Operand}{lo hi mx:Option Operand}{x:V}{bs:List V}{vs:List Value}{r:Option Value×Option Value×Option Value}(he:(Op.slice t xo lo hi mx).operands.toList.map a.eval=ah ρ α (x::bs))(h1:qX bs=some vs)(h2:jC lo.isSome hi.isSome mx.isSome vs=some r):a.eval xo=x.den ρ α∧iY a lo hi mx=r:=by
 have he':a.eval xo::(lo.toArray++hi.toArray++mx.toArray).toList.map a.eval=x.den ρ α::ah ρ α bs:=by
  rw [← ah]
  rw [← he]
  simp [Op.operands]
 injection he' with h3 h4
 exact⟨h3,uk (h4.trans (tZ h1)) h2⟩
theorem EV{P:Program}{t e:TypeId}{xo:Operand}{lo hi mx:Option Operand}{ad:Addr}{len sz l1 h1 m1:Nat}{r:Option Value×Option Value×Option Value}(hop:o.op=.slice t xo lo hi mx)(hx:a.eval xo=.pointer (some ad))(hf:gO P t=some (len,e))(hsz:aT P e=some sz)(ho:iY a lo hi mx=r)(hb:b7 len len r.1 r.2.1 r.2.2=some (l1,h1,m1)) :
 (execOp a.eval o).run P W=.ok (.value (.slice (some (if m1=l1 then ad else ad.add (l1*sz))) (h1-l1) (m1-l1))) W:=by
 subst ho
 have:=mR (P:=P) (W:=W) (b:=false) hb
 simp only [iY]at this
 simp [execOp,hop,hx,Instr.sliceAt,run_underlying (kE hf),Instr.sureAddr,this,cv hsz]
theorem iF{P:Program}{t e:TypeId}{xo:Operand}{lo hi mx:Option Operand}{A:Option Addr}{len cap sz l1 h1 m1:Nat}{r:Option Value×Option Value×Option Value}(hop:o.op=.slice t xo lo hi mx)(hx:a.eval xo=.slice A len cap)(hf:P.underlying t=some (.slice e))(hsz:aT P e=some sz)(ho:iY a lo hi mx=r)(hb:b7 len cap r.1 r.2.1 r.2.2=some (l1,h1,m1)) :
 (execOp a.eval o).run P W=.ok (.value (.slice (if m1=l1 then A else A.map (·.add (l1*sz))) (h1-l1) (m1-l1))) W:=by
 subst ho
 have:=mR (P:=P) (W:=W) (b:=true) hb
 simp only [iY]at this
 simp [execOp,hop,hx,Instr.sliceAt,Instr.slice,run_underlying hf,this,cv hsz]
theorem EW{P:Program}{t:TypeId}{xo:Operand}{lo hi mx:Option Operand}{s:ByteArray}{l1 h1 m1:Nat}{r:Option Value×Option Value×Option Value}(hop:o.op=.slice t xo lo hi mx)(hx:a.eval xo=.string s)(hf:P.underlying t=some .string)(ho:iY a lo hi mx=r)(hm:r.2.2.isSome=false)(hb:b7 s.size s.size r.1 r.2.1 none=some (l1,h1,m1)) :
 (execOp a.eval o).run P W=.ok (.value (.string (s.extract l1 h1))) W:=by
 subst ho
 have:=mR (P:=P) (W:=W) (b:=false) hb
 simp only [iY]at this hm
 have hm':mx.map a.eval=none:=by cases mx<;>simp at hm ⊢
 have hm2:mx=none:=af hm'
 subst hm2
 simp [execOp,hop,hx,Instr.sliceAt,Instr.slice,run_underlying hf,this]
theorem Rd.in{W:World}{sz n:Nat}{A:Option Addr}{xs:List Value}(h:Rd W sz A n xs){i:Nat}(hi:i<xs.length):∃ ad,A=some ad∧∀ j u,xs[j]?=some u→W.cell? (ad.add j)=some u:=by
 have hn:0<n:=by
  rcases Nat.eq_zero_or_pos n with rfl|hn
  ·rw [h.1]at hi;omega
  exact hn
 obtain⟨ad,e,_,hc⟩:=h.2 hn
 exact⟨ad,e,hc⟩
theorem eE(hI:aF w0 ps T ρ s a W α){n sz:Nat}{c:List V}{e:TypeId}(hn:s.hp[n]?=some (some ⟨c,e,.row sz⟩)):0<sz∧(((ah ρ α c).flatMap ae=[]∧(α n).h=.slice none 0 0)∨∃ len cap,(α n).h=.slice (some ⟨(α n).b,0,none⟩) len cap∧((ah ρ α c).flatMap ae).length=len*sz∧((ah ρ α c).flatMap ae++(α n).tl).length=cap*sz∧len≤cap∧cap≤maxLen ∧
 (⟨(α n).b,((ah ρ α c).flatMap ae++(α n).tl).toArray,e⟩:Ch)∈aU ρ α 0 s.hp):=by
 obtain⟨_,h0,h1⟩:=hI.rows n _ hn
 refine⟨h0,h1.imp id fun⟨len,cap,h2,h3,h4,h5,h6⟩=>⟨len,cap,h2,h3,h4,h5,h6,dk (k:=0) hn ?_⟩⟩
 simp only [ak.ch,Nat.zero_add,h2]
 rfl
theorem Hn(hI:aF w0 ps T ρ s a W α){n sz:Nat}{c:List V}{e:TypeId}(hn:s.hp[n]?=some (some ⟨c,e,.row sz⟩)):Arg.rd W ⟨(α n).h,sz,(ah ρ α c).flatMap ae⟩:=by
 obtain⟨h0,h|⟨len,cap,h2,h3,h4,h5,h6,hm⟩⟩:=eE hI hn
 ·rw [h.1,h.2];exact⟨Rd.none_,Nat.le_refl _⟩
 rw [h2]
 refine⟨?_,h5⟩
 show Rd W sz (some ⟨(α n).b,0,none⟩) len _
 refine Rd.mL (hI.st.at_ hm) h3 fun j u hu=>?_
 rw [Nat.zero_add]
 have:((ah ρ α c).flatMap ae++(α n).tl)[j]?=some u:=by rw [List.getElem?_append_left (List.getElem?_eq_some_iff.1 hu).1];exact hu
 simpa using this
theorem nq(hI:aF w0 ps T ρ s a W α){n sz:Nat}{c:List V}{e:TypeId}(hn:s.hp[n]?=some (some ⟨c,e,.ext sz⟩)):∀ W2,bp (bk (aU ρ α 0 s.hp) (dP a s T)) W W2→jW w0 ⟨(α n).h,sz,(ah ρ α c).flatMap ae⟩ W2 :=
 hI.st.pers _ (List.mem_append.2 (.inl (cL.2 ⟨n,_,hn,by rw [Nat.zero_add];rfl⟩)))
theorem oK(hI:aF w0 ps T ρ s a W α){n sz:Nat}{c:List V}{e:TypeId}{k:BK}(hn:s.hp[n]?=some (some ⟨c,e,k⟩))(hk:k=.row sz∨k=.ext sz):Arg.rd W ⟨(α n).h,sz,(ah ρ α c).flatMap ae⟩:=by
 rcases hk with rfl|rfl
 ·exact Hn hI hn
 exact(nq hI hn W (.refl _ _)).1
theorem wo(hI:aF w0 ps T ρ s a W α){n sz:Nat}{c:List V}{e:TypeId}{kk:BK}(hn:s.hp[n]?=some (some ⟨c,e,kk⟩))(hk:kk=.row sz∨kk=.ext sz){i:Value}(hb:jl (ae ((V.cat c).den ρ α)).length sz i):∃ ad len cap k j,(α n).h=.slice (some ad) len cap∧i=.int k j∧0≤j∧j<(len:Int)∧((ah ρ α c).flatMap ae).length=len*sz∧Rd W sz (some ad) len ((ah ρ α c).flatMap ae):=by
 have hrd:=oK hI hn hk
 obtain⟨_,hl⟩:=hI.rows n _ hn
 have hl:=hl.len
 have hl:0<sz∧∃ A len cap,(α n).h=.slice A len cap∧((ah ρ α c).flatMap ae).length=len*sz∧(0<len→A.isSome=true):=by
  rcases hk with rfl|rfl<;>exact hl
 obtain⟨h0,A,len,cap,h1,h2,h3⟩:=hl
 unfold jl at hb
 split at hb
 ·rename_i k j
  simp only [V.den,ae]at hb
  rw [h2,Nat.mul_div_cancel _ h0]at hb
  obtain⟨ad,rfl⟩:=Option.isSome_iff_exists.1 (h3 ab)
  rw [h1]at hrd
  exact⟨ad,len,cap,k,j,h1,rfl,hb.1,hb.2,h2,hrd.1⟩
 exact hb.elim
theorem Rd.m9{W:World}{sz n':Nat}{ad:Addr}{xs:List Value}(h:Rd W sz (some ad) n' xs){i n:Nat}(hi:i+n≤xs.length):Cells W (ad.add i) ((xs.drop i).take n).toArray:=by
 intro j u hu
 have hu':((xs.drop i).take n)[j]?=some u:=af hu
 rw [List.getElem?_take]at hu'
 split at hu'
 ·rw [List.getElem?_drop]at hu'
  obtain⟨ad',e,hc⟩:=Rd.in h (List.getElem?_eq_some_iff.1 hu').1
  cases e
  rw [jO]
  exact hc _ _ hu'
 cases hu'
theorem nJ{len sz:Nat}{i:Value}(h:jl len sz i):∃ k j,i=.int k j∧0≤j∧j<((len / sz:Nat):Int):=by
 unfold jl at h
 split at h
 ·exact⟨_,_,rfl,h.1,h.2⟩
 exact h.elim
theorem Hm(hI:aF w0 ps T ρ s a W α){n sz:Nat}{c:List V}{e:TypeId}(hn:s.hp[n]?=some (some ⟨c,e,.row sz⟩)){i:Value}(hb:jl (ae ((V.cat c).den ρ α)).length sz i):∃ len cap k j,(α n).h=.slice (some ⟨(α n).b,0,none⟩) len cap∧i=.int k j∧0≤j∧j<(len:Int)∧((ah ρ α c).flatMap ae).length=len*sz∧((ah ρ α c).flatMap ae++(α n).tl).length=cap*sz∧len≤cap∧cap≤maxLen ∧
 (⟨(α n).b,((ah ρ α c).flatMap ae++(α n).tl).toArray,e⟩:Ch)∈aU ρ α 0 s.hp:=by
 obtain⟨k,j,hi,h0,h1⟩:=nJ hb
 simp only [V.den,ae]at h1
 obtain⟨hz,⟨h2,_⟩|⟨len,cap,h2,h3,h4,h5,h6,h7⟩⟩:=eE hI hn
 ·rw [h2]at h1;simp at h1;omega
 rw [h3,Nat.mul_div_cancel _ hz]at h1
 exact⟨len,cap,k,j,h2,hi,h0,h1,h3,h4,h5,h6,h7⟩
theorem Bx{xs tl cs:List Value}{o:Nat}(h:o+cs.length≤xs.length):cO (xs++tl).toArray o cs.toArray=(xs.take o++cs++xs.drop (o+cs.length)++tl).toArray:=by
 unfold cO
 rw [List.take_append_of_le_length ab,List.drop_append_of_le_length (af h)]
 simp
theorem lN{ρ:List Value}{α:Nat→AV}:∀ {c ds:List V},tU c=some ds→(ah ρ α c).flatMap ae=ah ρ α ds
 | [],ds,h=>by
  obtain rfl:[]=ds:=by simpa [tU]using h
  rfl
 | v::l,ds,h=>by
  unfold tU at h
  split at h
  ·rename_i h0;cases h0
  ·rename_i cs l' h0
   cases h0
   obtain⟨d,h1,rfl⟩:=Option.map_eq_some_iff.1 h
   simp only [ah,V.den,List.flatMap_cons,ae,ea,lN h1]
  cases h
theorem wJ{c ds:List V}{sz o k p:Nat}{i:V}(h:E7 c sz o i k=some (ds,p)):∃ kk j,i=.k (.int kk j)∧tU c=some ds∧0≤j∧o+k≤sz∧0<k∧(j.toNat+1)*sz≤ds.length∧p=j.toNat*sz+o:=by
 unfold E7 at h
 split at h
 ·rename_i kk j
  obtain⟨d,h1,h2⟩:=Option.bind_eq_some_iff.1 h
  split at h2
  ·rename_i hc
   simp only [Option.some.injEq,Prod.mk.injEq]at h2
   obtain⟨rfl,rfl⟩:=h2
   exact⟨kk,j,rfl,h1,hc.1,hc.2.1,hc.2.2.1,hc.2.2.2,rfl⟩
  cases h2
 cases h
theorem zd{c ds:List V}{sz o k p:Nat}{i:V}(h:E7 c sz o i k=some (ds,p))(α:Nat→AV):jl (ae ((V.cat c).den ρ α)).length sz (i.den ρ α):=by
 obtain⟨kk,j,rfl,h1,h2,h3,h4,h5,rfl⟩:=wJ h
 have:0<sz:=ab
 simp only [V.den,ae,lN h1,aq]
 refine⟨h2,?_⟩
 have h6:j.toNat+1≤ds.length / sz:=(Nat.le_div_iff_mul_le this).2 h5
 omega
theorem ia{bs:List (Nat×Option ak)}{s i:V}{sz o:Nat}{v:V}{new:Option ak}{wr:Option (Nat×ak)}(h:ft bs s i sz o=.ef v new wr):False:=by
 unfold ft at h
 split at h
 ·split at h
  ·split at h<;>cases h
  cases h
 cases h
theorem D8{bs:List (Nat×Option ak)}{b:Bool}{n:Nat}{s i:V}{sz o:Nat}{v:V}{new:Option ak}{wr:Option (Nat×ak)}(h:j9 bs b n s i sz o=.ef v new wr):new=none∧wr=none∧∃ m c e ds p,s=.row m∧kX bs m=some (c,e,sz)∧E7 c sz o i n=some (ds,p)∧((b=true∧v=.a ((ds.drop p).take n))∨(b=false∧ds[p]?=some v)):=by
 unfold j9 at h
 split at h
 ·split at h
  ·rename_i c e sz' hrow
   split at h
   ·rename_i hs
    subst hs
    split at h
    ·rename_i ds p hst
     unfold Cm at h
     split at h
     ·rename_i hb
      cases h
      exact⟨rfl,rfl,_,c,e,ds,p,rfl,hrow,hst,.inl ⟨hb,rfl⟩⟩
     rename_i hb
     split at h
     ·rename_i u hu
      cases h
      exact⟨rfl,rfl,_,c,e,ds,p,rfl,hrow,hst,.inr ⟨af hb,hu⟩⟩
     cases h
    split at h<;>cases h
   cases h
  cases h
 split at h<;>cases h
theorem D0{C:Cx}{bs:List (Nat×Option ak)}{nm m:Nat}{t:TypeId}{x y v:V}{new:Option ak}{wr:Option (Nat×ak)}(h:kT C bs nm m t x y=.ef v new wr):False:=by
 unfold kT at h
 split at h
 ·split at h
  ·split at h
   ·split at h<;>cases h
   cases h
  cases h
 cases h
theorem D2{bs:List (Nat×Option ak)}{m:Nat}{fr:Bool}{t:TypeId}{x y v:V}{new:Option ak}{wr:Option (Nat×ak)}(h:kU C bs nm m fr t x y=.ef v new wr):False:=by
 unfold kU at h
 split at h
 ·split at h
  ·split at h
   ·split at h<;>cases h
   cases h
  cases h
 cases h
theorem D4{bs:List (Nat×Option ak)}{m:Nat}{g:FuncId}{ts:List TypeId}{args:List V}{v:V}{new:Option ak}{wr:Option (Nat×ak)}(h:mN C bs nm m g ts args=.ef v new wr):False:=by
 unfold mN at h
 split at h
 ·split at h
  ·cases h
  ·split at h<;>cases h
  cases h
 cases h
theorem D7{bs:List (Nat×Option ak)}{m:Nat}{g:FuncId}{ts:List TypeId}{args cap:List V}{v:V}{new:Option ak}{wr:Option (Nat×ak)}(h:kV C bs nm m g ts args cap=.ef v new wr):False:=by
 unfold kV at h
 split at h
 ·split at h
  ·split at h<;>cases h
  cases h
 cases h
theorem kK{sz:Nat}:∀ {l:List V},(∀ v∈l,v.cells.length=sz)→(l.flatMap V.cells).length=l.length*sz
 | [],_=>ai
 | v::l,h=>by
  rw [List.flatMap_cons,List.length_append,kK fun u hu=>h u (List.mem_cons_of_mem _ hu),h v (List.mem_cons_self ..),List.length_cons,Nat.succ_mul]
  omega
theorem Fk{P:Program}{hs:List Ch}{os:List Ow}{t e:TypeId}{sz:Nat}(ho:o.op=.buildSlice t 0 #[])(hu:P.underlying t=some (.slice e))(hsz:aT P e=some sz)(hS:St w0 hs os ps W)
 (h:∀ k W',St w0 (⟨k,#[],e⟩::hs) os ps W'→K (a.put o.dst (.slice (some ⟨k,0,none⟩) 0 0)) W'):o.wp P a W K Q:=by
 unfold Oper.wp execOp
 simp [ho,Instr.buildSlice,run_underlying hu,cv hsz,Instr.fill,newRow]
 have e0:Array.map (fun _=>(default:Value)) (Array.range 0)=#[]:=ai
 rw [e0]
 exact h _ _ (hS.new #[] e)
theorem vU(hI:aF w0 ps T ρ s a W α){sh:List Sh}(hsh:sh<+:s.sh){vv:List V}{v:V}(h:v.JN (cK s.hp vv) sh=true):(v.den ρ α).oneCell'=true:=by
 unfold V.JN at h
 rw [Bool.or_eq_true]at h
 rcases h with h|h
 ·exact oF hI.good hsh α h
 split at h
 ·rename_i m
  obtain⟨⟨c,e,sz⟩,hr⟩:=Option.isSome_iff_exists.1 h
  obtain⟨k,hn,hk⟩:=ee hr
  have hl:=(hI.rows m _ hn).2.len
  have:∃ A len cap,(α m).h=.slice A len cap:=by
   rcases hk with rfl|rfl
   ·obtain⟨_,A,len,cap,g,_⟩:=hl;exact⟨A,len,cap,g⟩
   obtain⟨_,A,len,cap,g,_⟩:=hl;exact⟨A,len,cap,g⟩
  obtain⟨A,len,cap,g⟩:=this
  simp only [V.den,g]
  rfl
 cases h
theorem yt(hI:aF w0 ps T ρ s a W α){sh:List Sh}(hsh:sh<+:s.sh){vv cs:List V}(h:wU (cK s.hp vv) sh cs=true):(ah ρ α cs).toArray.all (·.oneCell')=true:=by
 rw [Array.all_eq_true_iff_forall_mem]
 intro u hu
 rw [aE]at hu
 simp only [List.mem_toArray,List.mem_map]at hu
 obtain⟨v,hv,rfl⟩:=hu
 exact vU hI hsh (List.all_eq_true.1 h v hv)
theorem yN{sh0:List Sh}{t:TypeId}{xo yo:Operand}{n sz off k:Nat}{i vv:V}{c c':List V}{e:TypeId}(hop:o.op=.store t xo yo)(hx:a.eval xo=zp ((α n).h) (i.den ρ α) sz off)(hy:a.eval yo=vv.den ρ α)(hrow:s.hp[n]?=some (some ⟨c,e,.row sz⟩))(hs:aT C.P t=some k)(hk:vv.cells.length=k)(hk0:0<k)(hone:(ah ρ α vv.cells).toArray.all (·.oneCell')=true)
 (hI:aF w0 ps T ρ s a W α) (hbd:jl (ae ((V.cat c).den ρ α)).length sz (i.den ρ α)) (hlt:off+vv.cells.length≤sz) (hxs0:(ah ρ α c').flatMap ae=((ah ρ α c).flatMap ae).take (idxOf (i.den ρ α)*sz+off)++ah ρ α vv.cells++((ah ρ α c).flatMap ae).drop (idxOf (i.den ρ α)*sz+off+vv.cells.length)) (hw:aW s nm (.k undef) none (some (n,⟨c',e,.row sz⟩))=true) (hK:∀ a' W',Inv w0 ps T ρ (s.dl nm o.dst (.k undef) none (some (n,⟨c',e,.row sz⟩))) a' W'→K a' W'):o.wp C.P a W K Q:=by
 obtain⟨len,cap,kk,j,g1,g2,g3,g4,g5,g6,g7,g8,g9⟩:=Hm hI hrow hbd
 rw [g2]at hxs0 hx
 rw [g1]at hx
 simp only [zp,cJ,Nat.zero_add,idxOf]at hx hxs0
 have hj:j.toNat*sz+off+vv.cells.length≤((ah ρ α c).flatMap ae).length:=by
  rw [g5]
  have h1:(j.toNat+1)*sz≤len*sz:=Nat.mul_le_mul_right _ ab
  rw [Nat.add_mul]at h1
  omega
 have hxs:(⟨c',e,.row sz⟩:ak).xs ρ α=((ah ρ α c).flatMap ae).take (j.toNat*sz+off)++ah ρ α vv.cells++((ah ρ α c).flatMap ae).drop (j.toNat*sz+off+vv.cells.length):=hxs0
 have hxl:((⟨c',e,.row sz⟩:ak).xs ρ α).length=((ah ρ α c).flatMap ae).length:=by
  rw [hxs]
  simp only [List.length_append,List.length_take,List.length_drop,aq]
  omega
 have hrowOk:(⟨c',e,.row sz⟩:ak).bB ρ α n:=by
  refine⟨(eE hI hrow).1,.inr ⟨len,cap,g1,by rw [hxl,g5],?_,g7,g8⟩⟩
  rw [List.length_append,hxl,← List.length_append,g6]
 have hup:mj (α n).b ((ah ρ α c).flatMap ae++(α n).tl).toArray e (cO ((ah ρ α c).flatMap ae++(α n).tl).toArray (j.toNat*sz+off) (ah ρ α vv.cells).toArray) (aU ρ α 0 s.hp) (aU ρ α 0 (s.hp.set n (some ⟨c',e,.row sz⟩))):=by
  refine gQ (k:=0) hrow ?_ ?_
  ·simp only [ak.ch,Nat.zero_add,g1];rfl
  simp only [ak.ch,Nat.zero_add,g1]
  rw [hxs,Bx (by rw [aq];exact hj),aq]
 cases hA:vv.tX
 ·have hcs:vv.cells=[vv]:=by cases vv<;>first|rfl|simp [V.tX]at hA
  rw [hcs]at hup hk hone hj
  simp at hk
  subst hk
  have h1c:(vv.den ρ α).oneCell'=true:=by simpa [ah]using hone
  refine km hop hx hy hI.st hup ?_ hs (by simp at hj ⊢;omega) h1c fun W' hS=>gI hI hrow hrowOk rfl hw hK hS rfl
  rw [lh (by simp at hj ⊢;omega)]
  rfl
 obtain⟨cs,rfl⟩:∃ cs,vv=.a cs:=by cases vv<;>simp [V.tX]at hA;exact⟨_,rfl⟩
 simp only [V.cells]at *
 refine ko hop hx hy hI.st hup ?_ ?_ hone fun W' hS=>gI hI hrow hrowOk rfl hw hK hS rfl
 ·rw [hs];simp [aq,hk]
 simp [aq];simp at hj;omega
theorem Lt{v:V}{new:Option ak}{wr:Option (Nat×ak)}{vs:List V}{sh:List Sh}(hsh:sh<+:s.sh)(hvs:o.op.operands.toList.mapM s.ev=some vs){vv0:List V}(h:gj C sh nm o.op vs (cK s.hp vv0)=.ef v new wr)(hI:aF w0 ps T ρ s a W α)(hnm:new=none∨bh s nm)
 (hw:aW s nm v new wr=true) (hK:∀ a' W',Inv w0 ps T ρ (s.dl nm o.dst v new wr) a' W'→K a' W'):o.wp C.P a W K Q:=by
 have he:=cN hI.good hI.fm hvs
 have fp:=@aB w0 ps T ρ s a W α K o nm
 generalize hop:o.op=op at *
 unfold gj at h
 split at h
 ·-- move
  injection h with h1 h2 h3
  subst h1;subst h2;subst h3
  simp [Op.operands,ah]at he
  exact wp_move hop he (aB hI hw hK)
 ·injection h with h1 h2 h3
  subst h1;subst h2;subst h3
  simp [Op.operands,ah]at he
  exact wp_assign hop he (aB hI hw hK)
 ·-- pick
  simp [Op.operands,ah]at he
  obtain⟨e1,e2,e3⟩:=he
  split at h
  ·injection h with h1 h2 h3
   subst h1;subst h2;subst h3
   exact w3 hop e1 e2 (aB hI hw hK)
  ·injection h with h1 h2 h3
   subst h1;subst h2;subst h3
   exact tm hop e1 e3 (aB hI hw hK)
  ·cases h
  cases h
 ·-- box
  simp [Op.operands,ah]at he
  split at h
  ·injection h with h1 h2 h3
   subst h1;subst h2;subst h3
   exact iL hop he hI.st fun k W' hS _ _=>jY hI (hnm.resolve_left nofun) rfl hw hK hS fun α' hα=>by simp [V.den,hα]
  split at h
  ·rename_i h1c
   injection h with h1 h2 h3
   subst h1;subst h2;subst h3
   exact iK hop he (vU hI hsh h1c) hI.st fun k W' hS _ _=>jY hI (hnm.resolve_left nofun) rfl hw hK (by simpa [ah]using hS) fun α' hα=>by simp [V.den,hα]
  cases h
 ·-- alloc
  split at h
  ·rename_i cs hz
   injection h with h1 h2 h3
   subst h1;subst h2;subst h3
   exact wX hop hz hI.st fun k W' hS _ _=>jY hI (hnm.resolve_left nofun) rfl hw hK (by simpa [Kz]using hS) fun α' hα=>by simp [V.den,hα]
  ·rename_i v' hz
   split at h
   ·rename_i h1c
    injection h with h1 h2 h3
    subst h1;subst h2;subst h3
    exact wW hop hz h1c hI.st fun k W' hS _ _=>jY hI (hnm.resolve_left nofun) rfl hw hK (by simpa [ah,V.den]using hS) fun α' hα=>by simp [V.den,hα]
   cases h
  cases h
 ·-- load
  simp [Op.operands,ah,V.den]at he
  split at h
  ·rename_i b sz hb hr hs
   have hm:=hI.dS (dp hb).1 (dp hb).2
   split at h
   ·rename_i hlt
    injection h with h1 h2 h3
    subst h1;subst h2;subst h3
    refine eH hop he hI.st hm hr hs (by simpa [aq]using hlt) (cs:=(ah ρ α ((b.c.drop _).take sz)).toArray) ?_ (aB hI hw hK)
    rw [vF,cz]
   cases h
  ·rename_i b _ hb hr
   have hm:=hI.dS (dp hb).1 (dp hb).2
   split at h
   ·rename_i v' hv
    injection h with h1 h2 h3
    subst h1;subst h2;subst h3
    exact eG hop he hI.st hm hr (by rw [dH];exact dC hv) (aB hI hw hK)
   cases h
  cases h
 ·-- load of an element
  rename_i s' i' sz off
  split at h
  ·rename_i b k hro hsz
   obtain⟨rfl,rfl,m,c,e,ds,p,rfl,hrow,hst,hv⟩:=D8 h
   obtain⟨kk,hn,hk⟩:=ee hrow
   have hbd:=zd (ρ:=ρ) hst α
   obtain⟨k2,j,rfl,h1,h2,h3,h4,h5,rfl⟩:=wJ hst
   obtain⟨ad,len,cap,k',j',g1,g2,g3,g4,g5,g6⟩:=wo hI hn hk hbd
   rw [lN h1]at g6
   simp only [V.den]at g2
   cases g2
   simp [Op.operands,ah,V.den]at he
   rw [g1]at he
   simp only [zp]at he
   have hlen:j.toNat*sz+off+k≤(ah ρ α ds).length:=by
    rw [aq]
    rw [Nat.add_mul]at h5
    omega
   rcases hv with ⟨rfl,rfl⟩|⟨rfl,hv⟩
   ·refine eF hop he hro (Rd.m9 g6 hlen) ?_ ?_
    ·rw [hsz];simp only [List.size_toArray,List.length_take,List.length_drop];congr 1;omega
    ·have:=aB hI hw hK
     simpa only [V.den,cz]using this
   refine cx hop he hro ?_ (aB hI hw hK)
   obtain⟨ad',e',hcl⟩:=Rd.in g6 (by omega:j.toNat*sz+off<(ah ρ α ds).length)
   cases e'
   exact hcl _ _ (dC hv)
  cases h
 ·-- store
  rename_i n off vv
  simp [Op.operands,ah,V.den]at he
  obtain⟨e1,e2⟩:=he
  split at h
  ·rename_i b sz hb hs
   split at h
   ·rename_i hc
    obtain⟨hc1,hc2,hc3,hc4⟩:=hc
    injection h with h1 h2 h3
    subst h1;subst h2;subst h3
    obtain⟨hbn,hbk⟩:=dp hb
    have hup:mj (α n).b (ah ρ α b.c).toArray b.t (cO (ah ρ α b.c).toArray off (ah ρ α vv.cells).toArray) (aU ρ α 0 s.hp) (aU ρ α 0 (s.hp.set n (some ⟨cl b.c off vv.cells,b.t,b.k⟩))) :=
     gQ (k:=0) hbn (by simp only [ak.ch,hbk,Nat.zero_add]) (by simp only [ak.ch,hbk,Nat.zero_add,r8])
    have hrow:(⟨cl b.c off vv.cells,b.t,b.k⟩:ak).bB ρ α n:=by simp [ak.bB,hbk]
    have hown:∀ c:List V,(⟨c,b.t,b.k⟩:ak).own=true:=fun c=>by simp [ak.own,hbk]
    cases hA:vv.tX
    ·have hcs:vv.cells=[vv]:=by cases vv<;>first|rfl|simp [V.tX]at hA
     rw [hcs]at hup hrow hc1 hc3 hw hK
     simp at hc1
     subst hc1
     have h1c:(vv.den ρ α).oneCell'=true:=vU hI hsh (by simpa [wU]using hc3)
     refine km hop e1 e2 hI.st hup ?_ hs (by simp [aq];omega) h1c fun W' hS=>gI hI hbn hrow (hown _) hw hK hS rfl
     rw [lh (by simp [aq];omega)]
     rfl
    obtain⟨cs,rfl⟩:∃ cs,vv=.a cs:=by cases vv<;>simp [V.tX]at hA;exact⟨_,rfl⟩
    simp only [V.cells]at *
    refine ko hop e1 e2 hI.st hup ?_ ?_ (yt hI hsh hc3) fun W' hS=>gI hI hbn hrow (hown _) hw hK hS rfl
    ·rw [hs];simp [aq,hc1]
    simp [aq];omega
   cases h
  cases h
 ·-- nilCheck
  simp [Op.operands,ah,V.den]at he
  injection h with h1 h2 h3
  subst h1;subst h2;subst h3
  exact IK hop he (aB hI hw hK)
 ·-- fieldAddr
  simp [Op.operands,ah,V.den]at he
  split at h
  ·rename_i d hd
   injection h with h1 h2 h3
   subst h1;subst h2;subst h3
   exact kj hop he hd (aB hI hw hK)
  cases h
 ·-- fieldAddr of an element
  split at h
  ·exact(ia h).elim
  cases h
 ·-- field
  simp [Op.operands,ah,V.den]at he
  split at h
  ·rename_i off e hf
   split at h
   ·rename_i sz hr hs
    split at h
    ·injection h with h1 h2 h3
     subst h1;subst h2;subst h3
     refine wZ hop he hf hr hs ?_ (aB hI hw hK)
     rw [vF,← cz]
    cases h
   ·rename_i _ hr
    split at h
    ·rename_i v' hv
     injection h with h1 h2 h3
     subst h1;subst h2;subst h3
     exact wY hop he hf hr (by rw [dH];exact dC hv) (aB hI hw hK)
    cases h
   cases h
  cases h
 ·-- indexAddr
  simp [Op.operands,ah,V.den]at he
  split at h
  ·rename_i len e hf
   split at h
   ·rename_i sz hs
    split at h
    ·rename_i hi
     injection h with h1 h2 h3
     subst h1;subst h2;subst h3
     exact jK hop he.1 he.2 hf hi.1 hi.2 hs rfl (aB hI hw hK)
    cases h
   cases h
  cases h
 ·split at h<;>cases h
 ·simp [Op.operands,ah,V.den]at he
  split at h
  ·rename_i e hf
   split at h
   ·rename_i sz hs
    split at h
    ·rename_i hi
     injection h with h1 h2 h3
     subst h1;subst h2;subst h3
     refine fj hop he.1 he.2 (aV hf) hi.1 hi.2 hs (cJ _ _ _) (aB hI hw hK)
    cases h
   cases h
  cases h
 ·cases h
 ·split at h
  ·split at h
   ·exact(ia h).elim
   cases h
  cases h
 ·split at h
  ·split at h
   ·exact(ia h).elim
   cases h
  cases h
 ·-- store into a row
  rename_i n i sz off vv
  simp [Op.operands,ah,V.den]at he
  split at h
  ·rename_i c e sz' k hrow hs
   split at h
   ·rename_i ds p hst
    split at h
    ·rename_i hc
     obtain⟨rfl,hc2,hc3,hc4⟩:=hc
     injection h with h1 h2 h3
     subst h1;subst h2;subst h3
     have hbd:=zd (ρ:=ρ) hst α
     obtain⟨k2,j,rfl,g1,g2,g3,g4,g5,rfl⟩:=wJ hst
     refine yN (sh0:=sh) hop he.1 he.2 (gm hrow) hs hc2 hc3 (yt hI hsh hc4) hI hbd ab ?_ hw hK
     rw [lN g1]
     simp [ah,V.den,ae,cl,ea,aE,List.map_take,List.map_drop,idxOf]
    cases h
   split at h<;>cases h
  cases h
 ·-- index
  simp [Op.operands,ah,V.den]at he
  split at h
  ·rename_i len e hf
   split at h
   ·rename_i sz hr hs
    split at h
    ·rename_i hi
     injection h with h1 h2 h3
     subst h1;subst h2;subst h3
     refine w1 hop he.1 he.2 hf hi.1 hi.2.1 hr hs ?_ (aB hI hw hK)
     rw [vF,← cz]
    cases h
   ·rename_i hr hs
    split at h
    ·rename_i hi
     split at h
     ·rename_i v' hv
      injection h with h1 h2 h3
      subst h1;subst h2;subst h3
      exact og hop he.1 he.2 hf hi.1 hi.2 hr hs (by rw [dH];exact dC hv) (aB hI hw hK)
     cases h
    cases h
   cases h
  cases h
 ·split at h<;>cases h
 ·-- extract
  simp [Op.operands,ah,V.den]at he
  split at h
  ·rename_i v' hv
   injection h with h1 h2 h3
   subst h1;subst h2;subst h3
   exact BI hop he (by rw [dH];exact dC hv) (aB hI hw hK)
  cases h
 ·-- binOp
  simp [Op.operands,ah]at he
  split at h
  ·split at h
   ·split at h<;>cases h
   ·split at h<;>cases h
   cases h
  ·split at h<;>cases h
  split at h
  ·rename_i hbt
   obtain⟨c,d,u,rfl,rfl,hu,h1c,rfl,rfl,rfl⟩:=wE h
   exact bi (yR hop he.1 he.2 hbt hu) (aB hI hw hK)
  obtain⟨c,d,u,rfl,rfl,hu,h1c,rfl,rfl,rfl⟩:=wE h
  exact bi (Cu hop he.1 he.2 hu) (aB hI hw hK)
 ·-- not
  simp [Op.operands,ah]at he
  obtain⟨c,u,rfl,hu,h1c,rfl,rfl,rfl⟩:=rY h
  exact bi (Cz hop he hu) (aB hI hw hK)
 ·simp [Op.operands,ah]at he
  obtain⟨c,u,rfl,hu,h1c,rfl,rfl,rfl⟩:=rY h
  exact bi (Cy hop he hu) (aB hI hw hK)
 ·-- convert
  simp [Op.operands,ah]at he
  split at h
  ·rename_i hs hd
   obtain⟨c,u,rfl,hu,h1c,rfl,rfl,rfl⟩:=rY h
   exact bi (yS hop he hs hd hu) (aB hI hw hK)
  cases h
 ·-- a slice of a row
  unfold oG at h
  split at h
  ·split at h<;>cases h
  cases h
 ·-- slice
  rename_i bs _
  unfold rG at h
  split at h
  ·rename_i n oo _
   split at h
   ·rename_i len e hf
    split at h
    ·rename_i sz l h' m hsz hkl
     split at h
     ·rename_i l1 h1 m1 hb
      injection h with h2 h3 h4
      subst h2;subst h3;subst h4
      obtain⟨vs',hk1,hk2⟩:=Option.bind_eq_some_iff.1 hkl
      obtain⟨hx,hop2⟩:=uE he hk1 hk2
      refine bi (EV hop (by simpa [V.den]using hx) hf hsz hop2 hb) ?_
      exact aB (v:=.sl n (if m1=l1 then oo else oo+l1*sz) (h1-l1) (m1-l1)) hI hw hK |> fun q=>by
       have e:(V.sl n (if m1=l1 then oo else oo+l1*sz) (h1-l1) (m1-l1)).den ρ α=.slice (some (if m1=l1 then(⟨(α n).b,oo,none⟩:Addr)else(⟨(α n).b,oo,none⟩:Addr).add (l1*sz))) (h1-l1) (m1-l1):=by
        simp only [V.den]
        split<;>simp [cJ]
       rw [e]at q
       exact q
     cases h
    cases h
   cases h
  ·rename_i n oo len cap _
   split at h
   ·rename_i e hf
    split at h
    ·rename_i sz l h' m hsz hkl
     split at h
     ·rename_i l1 h1 m1 hb
      injection h with h2 h3 h4
      subst h2;subst h3;subst h4
      obtain⟨vs',hk1,hk2⟩:=Option.bind_eq_some_iff.1 hkl
      obtain⟨hx,hop2⟩:=uE he hk1 hk2
      refine bi (iF hop (by simpa [V.den]using hx) (aV hf) hsz hop2 hb) ?_
      exact aB (v:=.sl n (if m1=l1 then oo else oo+l1*sz) (h1-l1) (m1-l1)) hI hw hK |> fun q=>by
       have e:(V.sl n (if m1=l1 then oo else oo+l1*sz) (h1-l1) (m1-l1)).den ρ α=.slice (if m1=l1 then some (⟨(α n).b,oo,none⟩:Addr)else(some (⟨(α n).b,oo,none⟩:Addr)).map (·.add (l1*sz))) (h1-l1) (m1-l1):=by
        simp only [V.den]
        split<;>simp [cJ]
       rw [e]at q
       exact q
     cases h
    cases h
   cases h
  split at h
  ·cases h
  ·split at h<;>cases h
  cases h
 ·-- makeFunc
  injection h with h1 h2 h3
  subst h1;subst h2;subst h3
  refine bi (u:=_) ?_ (aB hI hw hK)
  simp only [execOp,hop,Instr.makeFunc,Sem.run_bind,Sem.run_pure,Result.andThen_ok]
  simp only [Op.operands,Array.toList_append,List.map_append]at he
  rename_i first cap
  have hl:(first.toList.map a.eval).length=first.size:=ai
  have h4:ah ρ α (vs.take first.size)=first.toList.map a.eval:=by
   have:=congrArg (List.take first.size) he
   rw [List.take_left' hl]at this
   rw [this,aE,aE,List.map_take]
  have h5:ah ρ α (vs.drop first.size)=cap.toList.map a.eval:=by
   have:=congrArg (List.drop first.size) he
   rw [List.drop_left' hl]at this
   rw [this,aE,aE,List.map_drop]
  simp only [V.den,h4,h5]
  simp [← Array.toList_map]
 ·-- build
  rename_i parts
  split at h
  ·rename_i pl z hpl hz
   split at h
   ·rename_i cs hf
    split at h
    ·rename_i hsz
     obtain⟨hsz,hall⟩:=hsz
     injection h with h1 h2 h3
     subst h1;subst h2;subst h3
     refine wp_build hop (cs:=(ah ρ α cs).toArray) ?_ (aB hI hw hK)
     have hpv:(parts.map fun(i,x)=>(i,a.eval x)).toList=(parts.toList.map (·.1)).zip (ah ρ α vs):=by
      rw [← he]
      simp only [Op.operands,Array.toList_map,List.map_map]
      rw [List.zip_map',]
      exact List.map_congr_left fun x _=>rfl
     rw [hpv]
     rw [yB hpl hz]
     have hfd:=tT hI.good α (fun e he'=>?_) hf
     ·rw [Kz]at hfd
      simp only [Array.toArray_toList]at hfd
      rw [← hfd]
      rw [List.map_fst_zip (by simp [hsz]),List.map_snd_zip (by simp [hsz])]
     have h5:=(List.of_mem_zip he').2
     have h6:=List.all_eq_true.1 hall _ h5
     simp only [Bool.or_eq_true]at h6
     exact h6.imp id fun h=>oF hI.good hsh α h
    cases h
   cases h
  cases h
 ·-- buildSlice
  rename_i n parts
  split at h
  ·rename_i e hsl
   split at h
   ·rename_i sz z hsz hz
    split at h
    ·rename_i hc
     obtain⟨rfl,hp0,hz0⟩:=hc
     injection h with h1 h2 h3
     subst h1;subst h2;subst h3
     have hpv:parts=#[]:=Array.eq_empty_of_size_eq_zero hp0
     refine Fk (by rw [hop,hpv]) (aV hsl) hsz hI.st fun k W' hS=>?_
     refine gR hI (hnm.resolve_left nofun) rfl hw hK ⟨k,.slice (some ⟨k,0,none⟩) 0 0,[]⟩ (fun α' h1 h2 h3 h4=>⟨?_,?_⟩) fun α' h1=>by simp only [V.den,h1]
     ·refine St.perm ?_ (dy (k:=0) (hnm.resolve_left nofun).1 (e:=⟨k,#[],e⟩) (by simp [ak.ch,h1,ak.xs,ah]))
      rw [h4];exact hS
     exact⟨hz0,.inr ⟨0,0,by rw [h1],by simp [ak.xs,ah],by simp [ak.xs,ah,h1],Nat.le_refl _,by simp [maxLen]⟩⟩
    split at h
    ·rename_i hc
     obtain⟨hb0,_,hb1,hc1,hc2,hc3,hc4,hc5⟩:=hc
     injection h with h1 h2 h3
     subst h1;subst h2;subst h3
     have hall:∀ v∈vs,v.cells.length=sz∧(v.tX=true∨(v.den ρ α).oneCell'=true):=fun v hv=>by
      have:=List.all_eq_true.1 hc5 v hv
      simp only [Bool.and_eq_true,Bool.or_eq_true,beq_iff_eq]at this
      exact⟨this.1,this.2.imp id fun h=>oF hI.good hsh α h⟩
     have hpv:(parts.map fun(i,x)=>(i,a.eval x)).toList=((ah ρ α vs).zipIdx 0).map fun p=>(p.2,p.1):=by
      have h7:(parts.map fun(i,x)=>(i,a.eval x)).toList=(parts.toList.map (·.1)).zip (ah ρ α vs):=by
       rw [← he]
       simp only [Op.operands,Array.toList_map,List.map_map]
       rw [List.zip_map']
       exact List.map_congr_left fun x _=>rfl
      rw [h7,hc1,← hc2,← aq ρ α vs]
      generalize ah ρ α vs=l
      rw [List.range_eq_range',List.zipIdx_eq_zip_range',List.map_zip_eq_zipWith,List.zip_eq_zipWith,List.zipWith_comm]
      rfl
     refine vc hop (aV hsl) hsz hz (ah ρ α vs) hpv (by rw [aq,hc2]) (fun u hu=>?_) hc4 hc3 hI.st fun k W' hS _ _=>?_
     ·rw [aE]at hu
      obtain⟨v,hv,rfl⟩:=List.mem_map.1 hu
      rw [lG (hall v hv).2]
      simp [aq,(hall v hv).1]
     have hln:(vs.flatMap V.cells).length=n*sz:=by rw [kK fun v hv=>(hall v hv).1,hc2]
     refine gR hI (hnm.resolve_left nofun) rfl hw hK ⟨k,.slice (some ⟨k,0,none⟩) n n,[]⟩ (fun α' h1 h2 h3 h4=>?_) fun α' h1=>by simp only [V.den,h1]
     have hx:(⟨[V.a (vs.flatMap V.cells)],e,.row sz⟩:ak).xs ρ α'=ah ρ α (vs.flatMap V.cells):=by
      show(ah ρ α' [V.a (vs.flatMap V.cells)]).flatMap ae=_
      rw [show ah ρ α' [V.a (vs.flatMap V.cells)]=ah ρ α [V.a (vs.flatMap V.cells)] from h3]
      simp [ah,V.den,ae]
     refine⟨?_,?_⟩
     ·refine St.perm ?_ (dy (k:=0) (hnm.resolve_left nofun).1 (e:=⟨k,(ah ρ α (vs.flatMap V.cells)).toArray,e⟩) (by simp [ak.ch,h1,hx]))
      rw [h4,← qP (fun v hv=>(hall v hv).2)]
      exact hS
     exact⟨hb1,.inr ⟨n,n,by rw [h1],by rw [hx,aq,hln],by rw [hx,h1,List.append_nil,aq,hln],Nat.le_refl _,Nat.le_trans (Nat.le_mul_of_pos_right n hb1) (Nat.le_trans hc4 (by simp [maxLen]))⟩⟩
    split at h
    ·rename_i hc
     obtain⟨hc1,hc2,hc3,hc4,hc5⟩:=hc
     injection h with h1 h2 h3
     subst h1;subst h2;subst h3
     have hall:∀ v∈vs,v.cells.length=sz∧(v.tX=true∨(v.den ρ α).oneCell'=true):=fun v hv=>by
      have:=List.all_eq_true.1 hc5 v hv
      simp only [Bool.and_eq_true,Bool.or_eq_true,beq_iff_eq]at this
      exact⟨this.1,this.2.imp id fun h=>oF hI.good hsh α h⟩
     have hpv:(parts.map fun(i,x)=>(i,a.eval x)).toList=((ah ρ α vs).zipIdx 0).map fun p=>(p.2,p.1):=by
      have h7:(parts.map fun(i,x)=>(i,a.eval x)).toList=(parts.toList.map (·.1)).zip (ah ρ α vs):=by
       rw [← he]
       simp only [Op.operands,Array.toList_map,List.map_map]
       rw [List.zip_map']
       exact List.map_congr_left fun x _=>rfl
      rw [h7,hc1,← hc2,← aq ρ α vs]
      generalize ah ρ α vs=l
      rw [List.range_eq_range',List.zipIdx_eq_zip_range',List.map_zip_eq_zipWith,List.zip_eq_zipWith,List.zipWith_comm]
      rfl
     refine vc hop (aV hsl) hsz hz (ah ρ α vs) hpv (by rw [aq,hc2]) (fun u hu=>?_) hc4 hc3 hI.st fun k W' hS _ _=>jY hI (hnm.resolve_left nofun) rfl hw hK (b:=IQ (vs.flatMap V.cells) e) (k:=k) ?_ fun α' hα=>by simp [V.den,hα]
     ·rw [aE]at hu
      obtain⟨v,hv,rfl⟩:=List.mem_map.1 hu
      rw [lG (hall v hv).2]
      simp [aq,(hall v hv).1]
     rw [← qP (fun v hv=>(hall v hv).2)]
     exact hS
    cases h
   cases h
  cases h
 ·-- call
  rename_i c
  have hargs:∀ b,c.callee=.builtin b→c.args.map a.eval=(ah ρ α vs).toArray:=fun b hb=>by
   rw [← he]
   exact Array.ext' (by simp [Op.operands,Call.operands,hb])
  split at h
  ·split at h
   ·split at h
    ·split at h
     ·exact(D2 h).elim
     exact(D0 h).elim
    cases h
   cases h
  ·split at h<;>cases h
  ·rename_i x hcal
   have ha:=hargs _ hcal
   split at h
   ·rename_i str hstr
    split at h
    ·rename_i n oo l cc
     injection h with h1 h2 h3
     subst h1;subst h2;subst h3
     have ha':c.args.map a.eval=#[.slice (some ⟨(α n).b,oo,none⟩) l cc]:=by rw [ha];simp [ah,V.den]
     exact bi (qm hop hcal hstr ha' rfl) (aB hI hw hK)
    obtain⟨c',u,rfl,hu,h1c,rfl,rfl,rfl⟩:=rY h
    exact bi (qm hop hcal hstr (by rw [ha];simp [ah,V.den]) hu) (aB hI hw hK)
   cases h
  ·rename_i x hcal
   have ha:=hargs _ hcal
   split at h
   ·rename_i hstr
    split at h
    ·rename_i n oo l cc
     injection h with h1 h2 h3
     subst h1;subst h2;subst h3
     have ha':c.args.map a.eval=#[.slice (some ⟨(α n).b,oo,none⟩) l cc]:=by rw [ha];simp [ah,V.den]
     exact bi (wC hop hcal hstr ha' rfl) (aB hI hw hK)
    obtain⟨c',u,rfl,hu,h1c,rfl,rfl,rfl⟩:=rY h
    exact bi (wC hop hcal hstr (by rw [ha];simp [ah,V.den]) hu) (aB hI hw hK)
   cases h
  ·rename_i x y hcal
   have ha:=hargs _ hcal
   obtain⟨c',d',u,rfl,rfl,hu,h1c,rfl,rfl,rfl⟩:=wE h
   exact bi (Cw hop hcal (by rw [ha];simp [ah,V.den]) hu) (aB hI hw hK)
  ·rename_i x y hcal
   have ha:=hargs _ hcal
   obtain⟨c',d',u,rfl,rfl,hu,h1c,rfl,rfl,rfl⟩:=wE h
   exact bi (Cv hop hcal (by rw [ha];simp [ah,V.den]) hu) (aB hI hw hK)
  ·split at h
   ·exact(D4 h).elim
   exact(D7 h).elim
  cases h
 ·-- makeSlice
  split at h
  ·rename_i e hsl
   split at h
   ·rename_i sz z by' hsz hz hb
    split at h
    ·rename_i L' M' hkn
     obtain⟨_,_,rfl,rfl⟩:=JH hkn
     split at h
     ·rename_i hc
      obtain⟨hc1,hcL,hc3,hc4⟩:=hc
      subst hcL
      injection h with h1 h2 h3
      subst h1;subst h2;subst h3
      simp [Op.operands,ah,V.den]at he
      refine sS hop he.1 he.2 (aV hsl) hsz hz hb hc1 (Int.le_refl _) hc4 ab hI.st fun k W' hS _ _=>?_
      have hden:∀ (l:List Value),ah ρ α (l.map V.k)=l:=fun l=>by rw [aE,List.map_map];exact(List.map_congr_left fun x _=>by simp [V.den]).trans (List.map_id l)
      exact jY hI (hnm.resolve_left nofun) rfl hw hK (b:=IQ ((madeCells z.cells (L'.toNat*sz)).toList.map .k) e) (k:=k) (by show St w0 (⟨k,(ah ρ α ((madeCells z.cells (L'.toNat*sz)).toList.map V.k)).toArray,e⟩::_) _ _ _;rw [hden];exact hS) fun α' h1=>by simp only [V.den,h1]
     cases h
    split at h<;>cases h
   cases h
  cases h
 cases h
theorem E2{sh:List Sh}{op:Op}{vs:List V}{bs bs':List (Nat×Option ak)}{v:V}{new:Option ak}{wr:Option (Nat×ak)}(hs:bX op=true)(h:gj C sh nm op vs bs=.ef v new wr):gj C sh nm op vs bs'=.ef v new wr:=by
 have hep:∀ s i sz o',ft bs s i sz o'≠.ef v new wr:=fun s i sz o'=>by
  unfold ft
  split
  ·split
   ·split<;>nofun
   nofun
  nofun
 unfold gj at h ⊢
 split at h<;>first
  | (exfalso;revert hs;simp [bX];done)
  | skip
 all_goals first
  | exact h
  | (
   split at h
   ·exact absurd h (hep _ _ _ _)
   cases h)
  | (
   split at h
   ·split at h
    ·exact absurd h (hep _ _ _ _)
    cases h
   cases h)
  | skip
 rename_i c
 obtain⟨cal,ar,at'⟩:=c
 cases cal with
 | value f=>simp [bX]at hs
 | invoke _ _=>simp [bX]at hs
 | builtin b =>
  cases b<;>simp [bX]at hs
  split at h
  all_goals first
   | (rename_i q;cases q;done)
   | skip
  all_goals first
   | exact h
   | (split at h<;>cases h)
theorem rZ{c:Go.Call}{vs:List V}(h:ey (.call c) vs=true):c.callee=.builtin .len∧vO vs=false:=by
 obtain⟨cal,ar,at'⟩:=c
 unfold ey at h
 rw [Bool.and_eq_true]at h
 refine⟨?_,by simpa using h.2⟩
 have h:=h.1
 cases cal with
 | value f=>simp [bX]at h
 | invoke _ _=>simp [bX]at h
 | builtin b=>cases b<;>simp [bX]at h<;>rfl
theorem Ic{sh:List Sh}{op:Op}{vs:List V}{bs bs':List (Nat×Option ak)}(hs:ey op vs=true):kW C sh nm op vs bs=kW C sh nm op vs bs':=by
 unfold kW
 split<;>first
  | rfl
  | (exfalso;revert hs;simp [ey,bX,vO];done)
  | (simp only [ft];done)
  | (have h1:=(rZ hs).1;simp only [h1];done)
  | (have h1:=(rZ hs).1;simp only [h1,rE];done)
theorem Ie{sh:List Sh}{op:Op}{vs:List V}{bs bs':List (Nat×Option ak)}{v:V}{new:Option ak}{wr:Option (Nat×ak)}(hs:ey op vs=true)(h:dQ C sh nm op vs bs=.ef v new wr):dQ C sh nm op vs bs'=.ef v new wr:=by
 rcases rH h with ⟨h1,h2⟩|⟨h1,h2⟩
 ·rw [Ic hs (bs':=bs')]at h1
  unfold dQ
  rw [h1]
 rw [Ic hs (bs':=bs')]at h1
 unfold dQ
 rw [h1]
 exact E2 (E0 hs) h2
theorem D5{bs:List (Nat×Option ak)}{m n:Nat}{g:FuncId}{ts:List TypeId}{args:List V}{v:V}{new:Option ak}{wr:Option (Nat×ak)}(h:wa C bs m g n ts args=.ef v new wr):False:=by
 unfold wa at h
 split at h
 ·split at h<;>cases h
 cases h
theorem Ed{bs:List (Nat×Option ak)}{nm m:Nat}{g:FuncId}{ts:List TypeId}{args:List V}{v:V}{new:Option ak}{wr:Option (Nat×ak)}(h:rF C bs nm m g ts args=.ef v new wr):False:=by
 unfold rF at h
 split at h
 ·split at h
  ·split at h
   ·split at h<;>cases h
   cases h
  cases h
 ·split at h
  ·split at h
   ·split at h
    ·split at h<;>cases h
    cases h
   cases h
  cases h
 cases h
theorem pj{args:Array Operand}{f:Operand→Value}{x y:Value}(h:args.map f=#[x,y]):∃ p q,args=#[p,q]∧f p=x∧f q=y:=by
 have h1:args.size=2:=by have:=congrArg Array.size h;simpa using this
 refine⟨args[0],args[1],?_,?_,?_⟩
 ·apply Array.ext
  ·simp [h1]
  intro i hi hi2
  have:i=0∨i=1:=ab
  rcases this with rfl|rfl<;>rfl
 ·have:=congrArg (fun a=>a[0]?) h;simpa [h1]using this
 ·have:=congrArg (fun a=>a[1]?) h;simpa [h1]using this
theorem sR{P:Program}{hs hs':List Ch}{os:List Ow}{t t' e:TypeId}{xo yo:Operand}{ad:Addr}{g o1 l1 c1 l2 c2:Nat}{cur:Array Value}{tt:TypeId}{cs:List Value}(hop:o.op=.call { callee:=.builtin .copy,args:=#[xo,yo],argTypes:=#[t,t'] }) (hx:a.eval xo=.slice (some ⟨g,o1,none⟩) l1 c1) (hy:a.eval yo=.slice (some ad) l2 c2)
 (hu:P.underlying t=some (.slice e)) (hs1:aT P e=some 1) (hS:St w0 hs os ps W) (hup:mj g cur tt (cur.toList.take o1++cs++cur.toList.drop (o1+cs.length)).toArray hs hs') (hn:cs.length=Nat.min l2 l1) (hsrc:∀ j v,cs[j]?=some v→W.cell? (ad.add j)=some v) (hfit:o1+cs.length≤cur.size) (h1:∀ v∈cs,v.oneCell'=true)
 (h:∀ W',St w0 hs' os ps W'→K (a.put o.dst (.int .i64 ((cs.length:Nat):Int))) W'):o.wp P a W K Q:=by
 have hrun:=run_copy_row (P:=P) W t t' o.type e g o1 l1 c1 ad l2 c2 cur tt cs hu hs1 (hS.at_ hup.mem) hn hsrc hfit (fun v hv=>by simpa [Value.oneCell']using h1 v hv)
 unfold Oper.wp execOp
 simp only [hop,resolve,invoke,builtin,Sem.run_bind,Sem.run_pure,Result.andThen_ok,List.map_toArray,List.map_cons,List.map_nil,hx,hy,hrun,goInt]
 exact h _ (hS.put hup)
theorem jn{ρ:List Value}{α α':Nat→AV}:∀ {hp:List (Option ak)}{k:Nat},(∀ (n:Nat)(b:ak),hp[n]?=some (some b)→b.ch ρ α' (k+n)=b.ch ρ α (k+n))→aU ρ α' k hp=aU ρ α k hp
 | [],_,_=>rfl
 | none::l,k,h=>by
  unfold aU
  exact jn fun n b hb=>by
   have:=h (n+1) b (af hb)
   rwa [show k+1+n=k+(n+1) by omega]
 | some b::l,k,h=>by
  have h0:=h 0 b rfl
  rw [Nat.add_zero]at h0
  have hl:aU ρ α' (k+1) l=aU ρ α (k+1) l:=jn fun n b hb=>by
   have:=h (n+1) b (af hb)
   rwa [show k+1+n=k+(n+1) by omega]
  unfold aU
  rw [hl,h0]
theorem jt{v:V}{b:ak}{n:Nat}{u:Value}(hI:aF w0 ps T ρ s a W α)(hnm:bh s nm)(hw:aW s nm v (some b) (some (n,bH))=true)(hK:∀ a' W',Inv w0 ps T ρ (s.dl nm o.dst v (some b) (some (n,bH))) a' W'→K a' W')
 (A:AV) {W':World} (hS:∀ α',α' nm=A→(∀ n,lv s.ln n=true→α' n=α n)→ah ρ α' b.c=ah ρ α b.c→(∀ (m:Nat) (c:ak),s.hp[m]?=some (some c)→c.ch ρ α' m=c.ch ρ α m)→aU ρ α' 0 s.hp=aU ρ α 0 s.hp→St w0 (aU ρ α' 0 ((s.hp.set nm (some b)).set n (some bH))) (dP a s T) (gZ w0 ρ α 0 s.hp++ps) W'∧b.bB ρ α' nm) (hbo:b.own=true) (hu:∀ α',α' nm=A→u=v.den ρ α'):K (a.put o.dst u) W':=by
 simp only [aW,ov,Bool.and_eq_true,hI.good.len]at hw
 obtain⟨α',h1,h2,h3⟩:=hI.move (n:=n) hnm hw.2.2 hw.1.2 A hS hbo
 exact hK _ _ ⟨α',h3.fN o.dst hw.1.1 (hu α' h1)⟩
theorem D1{bs:List (Nat×Option ak)}{m n:Nat}{t t':TypeId}{y:V}{v:V}{new:Option ak}{wr:Option (Nat×ak)}(h:vY C bs nm m t t' n y=.ef v new wr):False:=by
 unfold vY at h
 split at h
 ·split at h
  ·split at h
   ·split at h<;>cases h
   cases h
  cases h
 cases h
theorem Ea{P:Program}{bs:List (Nat×Option ak)}{t:TypeId}{ok:Bool}{n:Nat}{x v:V}{new:Option ak}{wr:Option (Nat×ak)}(h:wb P bs t ok n x=.ef v new wr):False:=by
 unfold wb at h
 split at h
 ·split at h<;>cases h
 cases h
theorem Ec{P:Program}{bs:List (Nat×Option ak)}{m n:Nat}{t:TypeId}{x y v:V}{new:Option ak}{wr:Option (Nat×ak)}(h:wg P bs m t n x y=.ef v new wr):False:=by
 unfold wg at h
 split at h
 ·split at h<;>cases h
 cases h
theorem D9{P:Program}{bs:List (Nat×Option ak)}{m n:Nat}{c:Callee}{ts:List TypeId}{x v:V}{new:Option ak}{wr:Option (Nat×ak)}(h:rE P bs m c ts n x=.ef v new wr):False:=by
 unfold rE at h
 split at h
 ·split at h<;>cases h
 cases h
theorem Eb{P:Program}{bs:List (Nat×Option ak)}{n:Nat}{c:Callee}{ts:List TypeId}{v:V}{new:Option ak}{wr:Option (Nat×ak)}(h:wc P bs c ts n=.ef v new wr):False:=by
 unfold wc at h
 split at h
 ·split at h<;>cases h
 cases h
theorem rD{bs:List (Nat×Option ak)}{t:TypeId}{n:Nat}{i v:V}{up:Bool}{new:Option ak}{wr:Option (Nat×ak)}(h:lV C bs t n i up=.ef v new wr):False:=by
 unfold lV at h
 split at h
 ·split at h<;>cases h
 cases h
theorem DZ{bs:List (Nat×Option ak)}{nm m:Nat}{t t':TypeId}{n o l c:Nat}{y v:V}{new:Option ak}{wr:Option (Nat×ak)}(h:rB C bs nm m t t' n o l c y=.ef v new wr):False:=by
 unfold rB at h
 split at h
 ·split at h
  ·split at h<;>cases h
  cases h
 cases h
theorem AG{bs:List (Nat×Option ak)}{nm m szp:Nat}{t:TypeId}{n:Nat}{i j v:V}{new:Option ak}{wr:Option (Nat×ak)}(h:nH C bs nm m t n i j szp=.ef v new wr):False:=by
 unfold nH at h
 split at h
 ·split at h<;>cases h
 cases h
theorem D3{bs:List (Nat×Option ak)}{x:V}{v:V}{new:Option ak}{wr:Option (Nat×ak)}(h:vZ bs x=.ef v new wr):False:=by
 unfold vZ at h
 split at h
 ·split at h
  ·split at h<;>cases h
  cases h
 ·split at h
  ·split at h<;>cases h
  cases h
 ·cases h
 cases h
theorem yV{P:Program}{t:TypeId}{x:Operand}{c:Value}(hop:o.op=.makeInterface t x)(hx:a.eval x=c)(hn:rm P t=true):(execOp a.eval o).run P W=.ok (.value (.iface t c)) W:=by
 unfold rm at hn
 split at hn
 ·cases hn
 ·rename_i d hd hu
  cases hud:d<;>subst hud<;>first
   | exact(hd _ rfl).elim
   | exact(hd _ hu).elim
   | simp [execOp,hop,hx,Instr.makeInterface,run_underlying hu]
 cases hn
theorem lc{P:Program}{x:Operand}{xt t:TypeId}{ok:Bool}{c:Value}{d:TypeDesc}(hop:o.op=.typeAssert x xt t ok)(hx:a.eval x=.iface t c)(hu:P.underlying t=some d)(hd:∀ ms,d≠.interface ms):(execOp a.eval o).run P W=.ok (.value (if ok=true then .tuple #[c,.bool true]else c)) W:=by
 cases hud:d<;>first
  | (subst hud;exact absurd rfl (hd _))
  | (subst hud;cases ok<;>simp [execOp,hop,hx,Instr.typeAssert,run_underlying hu])
theorem ld{P:Program}{x:Operand}{xt ta t:TypeId}{c z:Value}{d:TypeDesc}(hop:o.op=.typeAssert x xt ta true)(hx:a.eval x=.iface t c)(hu:P.underlying ta=some d)(hd:∀ ms,d≠.interface ms)(hne:¬ t=ta)(hz:zeroOf P ta=some z):(execOp a.eval o).run P W=.ok (.value (.tuple #[z,.bool false])) W:=by
 have hzr:(zeroValue ta).run P W=.ok z W:=by
  cases hi:P.info? ta with
  | none=>simp [zeroOf,hi]at hz
  | some i=>simp [zeroOf,hi]at hz;simp [zeroValue,typeInfo,hi,hz]
 cases hud:d<;>first
  | (subst hud;exact absurd rfl (hd _))
  | (subst hud;simp [execOp,hop,hx,Instr.typeAssert,run_underlying hu,hne,hzr])
theorem Lr{v:V}{new:Option ak}{wr:Option (Nat×ak)}{vs:List V}{sh:List Sh}(hsh:sh<+:s.sh)(hvs:o.op.operands.toList.mapM s.ev=some vs){vv0:List V}(h:kW C sh nm o.op vs (cK s.hp vv0)=.ef v new wr)(hI:aF w0 ps T ρ s a W α)(hnm:new=none∨bh s nm)
 (hw:aW s nm v new wr=true) (hK:∀ a' W',Inv w0 ps T ρ (s.dl nm o.dst v new wr) a' W'→K a' W'):o.wp C.P a W K Q:=by
 have he:=cN hI.good hI.fm hvs
 generalize hop:o.op=op at *
 unfold kW at h
 split at h
 ·split at h
  ·unfold j9 at h
   dsimp only at h
   split at h<;>cases h
  cases h
 ·split at h
  ·split at h
   ·split at h<;>cases h
   cases h
  cases h
 ·split at h
  ·split at h<;>cases h
  cases h
 ·split at h
  ·split at h
   ·exact(ia h).elim
   cases h
  cases h
 ·split at h
  ·split at h
   ·split at h
    ·exact(ia h).elim
    cases h
   cases h
  cases h
 ·split at h
  ·split at h
   ·split at h
    ·exact(ia h).elim
    cases h
   cases h
  cases h
 ·split at h
  ·split at h
   ·split at h
    ·split at h<;>cases h
    cases h
   cases h
  cases h
 ·-- makeSlice with room
  rename_i L' _ M'
  split at h
  ·rename_i e hsl
   split at h
   ·rename_i sz z by' hsz hz hb
    split at h
    ·rename_i hc
     obtain⟨hc1,hcL,hc3,hc4⟩:=hc
     injection h with h1 h2 h3
     subst h1;subst h2;subst h3
     simp [Op.operands,ah,V.den]at he
     refine sS hop he.1 he.2 (aV hsl) hsz hz hb hc1 ab hc4 ab hI.st fun k W' hS _ _=>?_
     have hden:∀ (l:List Value),ah ρ α (l.map V.k)=l:=fun l=>by rw [aE,List.map_map];exact(List.map_congr_left fun x _=>by simp [V.den]).trans (List.map_id l)
     exact jY hI (hnm.resolve_left nofun) rfl hw hK (b:=IQ ((madeCells z.cells (M'.toNat*sz)).toList.map .k) e) (k:=k) (by show St w0 (⟨k,(ah ρ α ((madeCells z.cells (M'.toNat*sz)).toList.map V.k)).toArray,e⟩::_) _ _ _;rw [hden];exact hS) fun α' h1=>by simp only [V.den,h1]
    cases h
   cases h
  cases h
 ·split at h
  ·split at h<;>cases h
  split at h
  ·exact(D3 h).elim
  cases h
 ·-- copy
  rename_i c n oo l cc y
  split at h
  ·exact(DZ h).elim
  ·rename_i t t' hcal hts
   split at h
   ·rename_i e B hsl hB
    split at h
    ·rename_i hsz
     split at h
     ·rename_i hfit
      split at h
      ·rename_i n' o' l' c'
       split at h
       ·rename_i B' hB'
        split at h
        ·rename_i hc
         obtain⟨hc1,hc2,hc3⟩:=hc
         injection h with h1 h2 h3
         subst h1;subst h2;subst h3
         obtain⟨hbn,hbk⟩:=dp hB
         obtain⟨hbn',hbk'⟩:=dp hB'
         obtain⟨cal,ar,at'⟩:=c
         simp only at hcal hts
         subst hcal
         have hat:at'=#[t,t']:=by rw [← Array.toArray_toList (xs:=at'),hts]
         subst hat
         simp only [Op.operands,Call.operands,ah,V.den]at he
         have hml:((B'.c.drop o').take (Nat.min l' l)).length=Nat.min l' l:=by
          simp only [List.length_take,List.length_drop]
          have h9:Nat.min l' l≤l':=Nat.min_le_left _ _
          omega
         have hle2:Nat.min l' l≤l:=Nat.min_le_right _ _
         have hup:mj (α n).b (ah ρ α B.c).toArray B.t ((ah ρ α B.c).toArray.toList.take oo++ah ρ α ((B'.c.drop o').take (Nat.min l' l))++(ah ρ α B.c).toArray.toList.drop (oo+(ah ρ α ((B'.c.drop o').take (Nat.min l' l))).length)).toArray (aU ρ α 0 s.hp) (aU ρ α 0 (s.hp.set n (some ⟨cl B.c oo ((B'.c.drop o').take (Nat.min l' l)),B.t,B.k⟩))) :=
          gQ (k:=0) hbn (by simp only [ak.ch,hbk,Nat.zero_add]) (by simp only [ak.ch,hbk,Nat.zero_add];congr 2;simp [cl,ea,aE,List.map_take,List.map_drop])
         have hpq:∃ p q',ar=#[p,q']∧a.eval p=.slice (some ⟨(α n).b,oo,none⟩) l cc∧a.eval q'=.slice (some ⟨(α n').b,o',none⟩) l' c':=pj (Array.ext' (af he))
         obtain⟨p,q',rfl,hp,hq⟩:=hpq
         have hdl:(ah ρ α ((B'.c.drop o').take (Nat.min l' l))).length=Nat.min l' l:=by rw [aq,hml]
         refine sR hop hp hq (aV hsl) hsz hI.st hup hdl (fun j v hv=>?_) (by rw [hdl];simp [aq];omega) (fun v hv=>?_) fun W' hS=>?_
         ·rw [cJ]
          refine hI.st.cell (hI.dS hbn' hbk') (j:=o'+j) ?_
          rw [cz,List.getElem?_take]at hv
          split at hv
          ·rw [List.getElem?_drop]at hv
           simpa using hv
          cases hv
         ·have:=qj hI.good hsh α hc2
          rw [List.all_toArray,List.all_eq_true]at this
          exact this v hv
         rw [hdl]
         refine gI hI hbn (by simp [ak.bB,hbk]) (by simp [ak.own,hbk]) hw hK hS rfl
        cases h
       cases h
      ·split at h
       ·split at h<;>cases h
       cases h
      ·cases h
      cases h
     cases h
    cases h
   cases h
  cases h
 ·-- a row cut to nothing
  rename_i t x hi n i
  split at h
  ·exact(rD h).elim
  ·rename_i k
   simp [Op.operands,ah]at he
   obtain⟨he1',he2'⟩:=he
   split at h
   ·rename_i c e sz sz' hrow hsz
    split at h
    ·rename_i hs
     subst hs
     injection h with h1 h2 h3
     subst h1;subst h2;subst h3
     have hnm':bh s nm:=hnm.resolve_left nofun
     have hn:=gm hrow
     have hne:n≠nm:=uc (yg hn) hnm'.1
     obtain⟨h0,hinfo⟩:=eE hI hn
     obtain⟨et,hb1,hb2⟩:=Option.bind_eq_some_iff.1 hsz
     have hset:(s.hp.set nm (some ⟨[],e,.row sz'⟩)).set n (some bH)=(s.hp.set n (some bH)).set nm (some ⟨[],e,.row sz'⟩):=List.set_comm _ _ (fun h=>hne h.symm)
     have hnm2:(s.hp.set n (some bH))[nm]?=some none:=by rw [List.getElem?_set_ne hne];exact hnm'.1
     obtain⟨A,len,cap,hh⟩:∃ A len cap,(α n).h=.slice A len cap:=by
      rcases hinfo with ⟨_,h⟩|⟨len,cap,h,_⟩
      ·exact⟨_,_,_,h⟩
      exact⟨_,_,_,h⟩
     have hrun:=iF (P:=C.P) (W:=W) (l1:=0) (h1:=0) (m1:=cap) hop (he1'.trans hh) (aV hb1) hb2 rfl (by simp [iY,b7,iN,he2',V.den])
     have hval:(Value.slice (if cap=0 then A else A.map (·.add (0*sz'))) (0-0) (cap-0))=.slice A 0 cap:=by
      have:A.map (·.add (0*sz'))=A:=by
       cases A with
       | none=>rfl
       | some ad=>simp [Addr.add]
      rw [this];simp
     refine bi hrun ?_
     rw [hval]
     refine jt hI hnm' hw hK ⟨(α n).b,.slice A 0 cap,(ah ρ α c).flatMap ae++(α n).tl⟩ (fun α' h1 h2 h3 h5 h4=>?_) rfl (fun α' h1=>by simp only [V.den,h1])
     have hxs:(⟨[],e,.row sz'⟩:ak).xs ρ α'=[]:=by simp [ak.xs,ah]
     rcases hinfo with ⟨hx0,hhn⟩|⟨len',cap',hh',hl1,hl2,hlc,hcm,hmem⟩
     ·rw [hhn]at hh
      cases hh
      refine⟨?_,h0,.inl ⟨hxs,by rw [h1]⟩⟩
      have hsame:aU ρ α' 0 (s.hp.set n (some bH))=aU ρ α 0 s.hp:=by
       obtain⟨l1,l2,q1,q2⟩:=cy (ρ:=ρ) (α:=α') (k:=0) hn
       rw [← h4,q1,q2]
       have:(⟨c,e,.row sz'⟩:ak).ch ρ α' (0+n)=none:=by
        have e5:=h5 n _ hn
        rw [Nat.zero_add,e5]
        simp only [ak.ch,hhn]
       simp only [Option.bind_some,this]
       simp [bH,ak.ch]
      rw [hset,gA (k:=0) hnm2 (by simp only [ak.ch,Nat.zero_add,h1]),hsame]
      exact hI.st
     rw [hh']at hh
     cases hh
     obtain⟨l1,l2,q1,q2⟩:=cy (ρ:=ρ) (α:=α) (k:=0) hn
     have hchn:(⟨c,e,.row sz'⟩:ak).ch ρ α (0+n)=some ⟨(α n).b,((ah ρ α c).flatMap ae++(α n).tl).toArray,e⟩:=by
      simp only [ak.ch,Nat.zero_add,hh'];rfl
     have hq1:aU ρ α 0 s.hp=l1++(⟨(α n).b,((ah ρ α c).flatMap ae++(α n).tl).toArray,e⟩::l2):=by
      rw [q1]
      simp only [Option.bind_some,hchn,Option.toList_some,List.cons_append,List.nil_append]
     have hrest:aU ρ α' 0 (s.hp.set n (some bH))=l1++l2:=by
      have e1:aU ρ α 0 (s.hp.set n (some bH))=l1++l2:=by
       rw [q2];simp [bH,ak.ch]
      rw [← e1]
      refine jn fun k b hb=>?_
      rcases bD hb with ⟨rfl,rfl⟩|⟨_,hb⟩
      ·simp [bH,ak.ch]
      simpa using h5 k b hb
     refine⟨?_,h0,.inr ⟨0,cap,by rw [h1],by rw [hxs];simp,by rw [hxs,h1];simpa using hl2,Nat.zero_le _,hcm⟩⟩
     rw [hset]
     refine St.perm ?_ (dy (k:=0) hnm2 (e:=⟨(α n).b,((ah ρ α c).flatMap ae++(α n).tl).toArray,e⟩) (by simp only [ak.ch,Nat.zero_add,h1,hxs,List.nil_append]))
     rw [hrest]
     have:=hI.st
     rw [hq1]at this
     exact this.perm List.perm_middle
    cases h
   cases h
  cases h
 ·split at h
  ·exact(rD h).elim
  cases h
 ·split at h
  ·split at h
   ·exact(AG h).elim
   cases h
  cases h
 ·-- no slice,cut to nothing
  rename_i t x hi k
  simp [Op.operands,ah]at he
  obtain⟨he1',he2'⟩:=he
  split at h
  ·rename_i sz hsz
   injection h with h1 h2 h3
   subst h1;subst h2;subst h3
   obtain⟨et,hb1,hb2⟩:=Option.bind_eq_some_iff.1 hsz
   have hrun:=iF (P:=C.P) (W:=W) (A:=none) (len:=0) (cap:=0) (l1:=0) (h1:=0) (m1:=0) hop (he1'.trans rfl) (aV hb1) hb2 rfl (by simp [iY,b7,iN,he2',V.den])
   exact bi hrun (aB hI hw hK)
  cases h
 ·-- zeros
  split at h
  ·split at h
   ·split at h
    ·split at h<;>cases h
    cases h
   cases h
  cases h
 ·split at h
  ·exact(D5 h).elim
  cases h
 ·cases h
 ·-- a string's bytes appended
  split at h
  ·exact(D1 h).elim
  cases h
 ·-- a value becomes one of an interface
  rename_i t x u
  simp [Op.operands,ah]at he
  split at h
  ·rename_i hn
   cases h
   exact bi (yV hop he hn) (aB hI hw hK)
  cases h
 ·-- a value of an interface asked for its type
  rename_i x xt ta ok t u
  simp [Op.operands,ah,V.den]at he
  unfold AH at h
  split at h
  ·cases h
  ·rename_i d z hni hu hz
   split at h
   ·rename_i ht
    subst ht
    cases h
    cases ok
    ·exact bi (lc hop he hu (fun ms e=>hni ms e)) (aB hI hw hK)
    exact bi (lc hop he hu (fun ms e=>hni ms e)) (aB hI hw hK)
   split at h
   ·rename_i hne hc
    obtain⟨rfl,h1⟩:=hc
    cases h
    exact bi (ld hop he hu (fun ms e=>hni ms e) hne hz) (aB hI hw hK)
   cases h
  cases h
 ·unfold AJ at h
  split at h
  ·cases h
  ·split at h<;>cases h
  cases h
 ·-- a new map
  rename_i t
  split at h
  ·rename_i kk sz b z hm
   injection h with h1 h2 h3
   subst h1;subst h2;subst h3
   have hrun:(execOp a.eval o).run C.P W=.ok (.value (.map (some W.heap.size))) (W.alloc (.map #[] 0)):=by
    simp only [execOp,hop]
    rfl
   unfold Oper.wp
   rw [hrun]
   have hS:=hI.st.Pa #[.int .i64 0] (.map sz b)
   rw [show Ch.obj ⟨W.heap.size,#[.int .i64 0],.map sz b⟩=Obj.map #[] 0 by simp [Ch.obj,vP,yh,qC]]at hS
   refine gR (b:=⟨[.a [.k (.int .i64 0)]],0,.mp sz b⟩) hI (hnm.resolve_left nofun) rfl hw hK ⟨W.heap.size,undef,[]⟩ (fun α' h1 h2 h3 h4=>⟨St.perm ?_ (dy (k:=0) (hnm.resolve_left nofun).1 (e:=⟨W.heap.size,#[.int .i64 0],.map sz b⟩) ?_),trivial⟩) (fun α' h1=>by simp only [V.den,h1])
   ·rw [h4];exact hS
   simp [ak.ch,h1,ak.xs,ah,V.den,ae]
  cases h
 ·exact(Ea h).elim
 ·exact(Ec h).elim
 ·exact(D9 h).elim
 ·exact(Eb h).elim
 ·split at h
  ·exact(Ed h).elim
  cases h
 cases h
theorem F3{v:V}{new:Option ak}{wr:Option (Nat×ak)}{vs:List V}{sh:List Sh}(hsh:sh<+:s.sh)(hvs:o.op.operands.toList.mapM s.ev=some vs){vv0:List V}(h:dQ C sh nm o.op vs (cK s.hp vv0)=.ef v new wr)(hI:aF w0 ps T ρ s a W α)(hnm:new=none∨bh s nm)
 (hw:aW s nm v new wr=true) (hK:∀ a' W',Inv w0 ps T ρ (s.dl nm o.dst v new wr) a' W'→K a' W'):o.wp C.P a W K Q:=by
 rcases rH h with ⟨h1,_⟩|⟨_,h2⟩
 ·exact Lr hsh hvs h1 hI hnm hw hK
 exact Lt hsh hvs h2 hI hnm hw hK
theorem F2{v:V}{new:Option ak}{wr:Option (Nat×ak)}{vs:List V}{sh:List Sh}(hsh:sh<+:s.sh)(hvs:o.op.operands.toList.mapM s.ev=some vs)(h:dQ C sh nm o.op vs (s.ja o.op vs)=.ef v new wr)(hI:aF w0 ps T ρ s a W α)(hnm:new=none∨bh s nm)
 (hw:aW s nm v new wr=true) (hK:∀ a' W',Inv w0 ps T ρ (s.dl nm o.dst v new wr) a' W'→K a' W'):o.wp C.P a W K Q:=by
 unfold S.ja at h
 split at h
 ·rename_i hs
  exact F3 (vv0:=vs) hsh hvs (Ie hs h) hI hnm hw hK
 exact F3 hsh hvs h hI hnm hw hK
end
end SX
end Go.Proofs.YtidekfgkpindbaaGreatDoor
