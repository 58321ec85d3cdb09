/-
  Texts behind the statement, part 2.
-/
import Derived.Test.YtmgcclhbbhbmcaaGreatRB1
import Derived.Scope
set_option linter.unusedSimpArgs false
set_option linter.unusedVariables false
namespace Go.Proofs.YtmgcclhbbhbmcaaGreat
open Go Go.RowKit
namespace Z
section
variable {P:Program}{E:LId→LSt→M Rd1}{Γ:Cn}{w0:World}{ms:Ms}{h:Heap}{α α' β:Al}{I I':Gh}{W W':World}{o:Oper}{a:Act}
theorem app_grow(hi:HInv P (tyOf P) w0 ms h α I W){t tx e:TypeId}{x y:Operand}{ty:Ty}{z:Value}{by' f:Nat}{A:Option Addr}{c:Nat}{l xs:List D}{olds news:List Value}{kn:Bool}(ho:o.op=.call { callee:=.builtin .append,args:=#[x,y],argTypes:=#[t,tx] })
 (hf:at_ h f=.non) (hx:a.eval x=.slice A l.length c) (hl:SrcD P I W e ty l (.slice A l.length c) olds) (hs:SrcD P I W e ty xs (a.eval y) news) (hu:P.underlying t=some (.slice e)) (hux:P.underlying tx=some (.slice e)) (hty:tyOf P e=some ty) (hz:zeroOf P e=some z) (hzs:z.cells.size=ty.n) (hb:bytes P e=some by')
 (hby:by'≤64) (hlen:l.length+xs.length≤1099511627776) (hg:c<l.length+xs.length) :
 OkOp P w0 ms o a h α I W (.sl kn e (l++xs) (.tip f)) [(f,.tip e)]:=by
 obtain⟨hsz,_⟩:=ty_of hty
 cases hie:P.info? e with
 | none=>simp [szOf,hie]at hsz
 | some i =>
  have hz':i.zero=some z:=by simpa [zeroOf,hie]using hz
  have hs':i.size=ty.n:=by simpa [szOf,hie]using hsz
  have hb':i.bytes=by':=by simpa [bytes,hie]using hb
  have hfit:(l.length+xs.length+(l.length+xs.length) / 4+192)*i.bytes≤281474976710656:=by
   rw [hb']
   refine Nat.le_trans (Nat.mul_le_mul (show _≤1374389534912 by omega) hby) (by decide)
  have hrun:=run_append_grow_src (P:=P) W t tx o.type e i z hu hie hz' A l.length c olds (by rw [hs'];exact hl.first) (a.eval y) xs.length news (by rw [hs'];exact hs.src hux) hg (by omega) (growslice_fits_wide hg hfit)
  have hcap:=grownCap_ge W (l.length+xs.length) c e
  generalize hcp:grownCap W (l.length+xs.length) c e=cap at hrun hcap
  generalize hcs:(olds++news).toArray++Builtin.zeroCells z.cells (cap-(l.length+xs.length))=cs at hrun
  have hcn:cs.size=cap*ty.n:=by
   rw [← hcs,Array.size_append,List.size_toArray,List.length_append,hl.len,hs.len,zero_size hz hsz hzs,← Nat.add_mul,← Nat.add_mul]
   congr 1;omega
  have hget:∀ q,q<(l.length+xs.length)*ty.n→cs[q]?=(olds++news)[q]?:=fun q hq=>by
   rw [← hcs,Array.getElem?_append_left (by simp [hl.len,hs.len,← Nat.add_mul];exact hq)]
   simp
  have hwc:(l.length+xs.length)*ty.n≤cap*ty.n:=Nat.mul_le_mul_right _ hcap
  have hL:HInv P (tyOf P) w0 ms (put h f (.tip e)) (α.set f { b:=W.heap.size,s:=ty.n,w:=l.length+xs.length,c:=cap }) (I.lay W.heap.size cs 0 ((l.length+xs.length)*ty.n)) (W.drew.alloc (.cells cs e)):=by
   have hle:LeI I (I.lay W.heap.size cs 0 ((l.length+xs.length)*ty.n)):=Gh.lay_le fun q _ _=>ghost_new hi q
   refine hi.new hf (fun _=>Nat.le_refl _) (Stp.below ((Below.refl _ _).drew.alloc (Nat.le_refl _) _)) hle (fun b q v hv=>?_) (fun b q hb hq=>?_) (fun h=>nomatch h) (.inr ⟨rfl,ty,cs,e,hty,rfl,heap_alloc_last W.drew _,hcap,by rw [hcn];exact Nat.le_refl _,fun q hq=>?_⟩)
   ·unfold Gh.lay at hv
    split at hv
    ·rename_i hc
     refine .inr ?_
     rw [hc.1]
     show(W.drew.alloc (.cells cs e)).cell? ⟨W.drew.heap.size,q,none⟩=_
     rw [cell_of_row _ _ _ cs e (0,0) (heap_alloc_last W.drew _)];exact hv
    exact .inl hv
   ·unfold Gh.lay
    rw [if_neg (by rintro⟨e',_⟩;omega)];exact hq
   unfold Gh.lay
   rw [if_neg (by rintro⟨_,_,h3⟩;exact absurd h3 (Nat.not_lt.2 hq))];exact ghost_new hi q
  refine⟨.value (.slice (some ⟨W.heap.size,0,none⟩) (l.length+xs.length) cap),_,_,_,_,?_,.inl rfl,Gh.lay_le fun q _ _=>ghost_new hi q,Al.set_le (hi.fresh hf),hL,?_⟩
  ·unfold execOp
   simp only [ho,resolve,invoke,builtin,Sem.run_bind,Sem.run_pure,Result.andThen_ok,List.map_toArray,List.map_cons,List.map_nil,hx,hrun]
  have hll:(l++xs).length=l.length+xs.length:=List.length_append
  rw [← hll]
  refine .sl (by rw [hll];exact hcap) ⟨_,Al.set_eq,rfl,rfl,(fun _=>rfl),fun h=>nomatch h⟩ fun _=>mem_den hty (fun d hd=>?_) fun i j d e' h1 h2=>?_
  ·rcases List.mem_append.1 hd with hd|hd
   ·exact hl.el d hd
   exact hs.el d hd
  have hel:ElOk ty d:=by
   rcases List.mem_append.1 (List.mem_of_getElem? h1)with hd|hd
   ·exact hl.el d hd
   exact hs.el d hd
  have hi':i<(l++xs).length:=(List.getElem?_eq_some_iff.1 h1).1
  have hj:j<ty.n:=by rw [← hel.1.len];exact(List.getElem?_eq_some_iff.1 h2).1
  have h3:(i+1)*ty.n≤(l++xs).length*ty.n:=Nat.mul_le_mul_right _ hi'
  rw [Nat.add_mul]at h3
  rw [Nat.zero_add,Gh.lay_at (Nat.zero_le _) (by omega),hget _ (by rw [← hll];omega)]
  by_cases hil:i<l.length
  ·rw [List.getElem?_append_left hil]at h1
   obtain⟨v,f1,f2⟩:=hl.den i j d e' h1 h2
   refine⟨v,?_,f2.mono (Gh.lay_le fun q _ _=>ghost_new hi q) (.refl _)⟩
   rw [List.getElem?_append_left (List.getElem?_eq_some_iff.1 f1).1];exact f1
  rw [List.getElem?_append_right (by omega)]at h1
  obtain⟨v,f1,f2⟩:=hs.den (i-l.length) j d e' h1 h2
  refine⟨v,?_,f2.mono (Gh.lay_le fun q _ _=>ghost_new hi q) (.refl _)⟩
  have h4:l.length*ty.n≤i*ty.n:=Nat.mul_le_mul_right _ (by omega)
  rw [List.getElem?_append_right (by rw [hl.len];omega),hl.len,← f1]
  congr 1
  rw [Nat.sub_mul];omega
theorem app_own(hi:HInv P (tyOf P) w0 ms h α I W){t tx e:TypeId}{x y:Operand}{ty:Ty}{z:Value}{by' f:Nat}{A:Option Addr}{xs:List D}{news:List Value}(ho:o.op=.call { callee:=.builtin .append,args:=#[x,y],argTypes:=#[t,tx] })
 (hf:at_ h f=.non) (hx:a.eval x=.slice A 0 0) (hs:SrcD P I W e ty xs (a.eval y) news) (hu:P.underlying t=some (.slice e)) (hux:P.underlying tx=some (.slice e)) (hty:tyOf P e=some ty) (hz:zeroOf P e=some z) (hzs:z.cells.size=ty.n) (hb:bytes P e=some by')
 (hby:by'≤64) (hlen:xs.length≤1099511627776) (hg:0<xs.length) :
 OkOp P w0 ms o a h α I W (.ar false f 0 xs.length) [(f,.arr false e xs.length xs)]:=by
 obtain⟨hsz,_⟩:=ty_of hty
 cases hie:P.info? e with
 | none=>simp [szOf,hie]at hsz
 | some i =>
  have hz':i.zero=some z:=by simpa [zeroOf,hie]using hz
  have hs':i.size=ty.n:=by simpa [szOf,hie]using hsz
  have hb':i.bytes=by':=by simpa [bytes,hie]using hb
  have hfit:(0+xs.length+(0+xs.length) / 4+192)*i.bytes≤281474976710656:=by
   rw [hb']
   refine Nat.le_trans (Nat.mul_le_mul (show _≤1374389534912 by omega) hby) (by decide)
  have hol:SrcD P I W e ty [] (.slice A 0 0) []:=⟨⟨A,0,rfl,fun h=>by simp at h⟩,by simp,(fun u hu=>by simp at hu),(fun i j d e' h=>by simp at h),fun d hd=>by simp at hd⟩
  have hrun:=run_append_grow_src (P:=P) W t tx o.type e i z hu hie hz' A 0 0 [] (by rw [hs'];exact hol.first) (a.eval y) xs.length news (by rw [hs'];exact hs.src hux) (by omega) (by omega) (growslice_fits_wide (by omega) hfit)
  have hcap:=grownCap_ge W (0+xs.length) 0 e
  generalize hcp:grownCap W (0+xs.length) 0 e=cap at hrun hcap
  generalize hcs:([]++news).toArray++Builtin.zeroCells z.cells (cap-(0+xs.length))=cs at hrun
  rw [List.nil_append]at hcs
  have hcn:cs.size=cap*ty.n:=by
   rw [← hcs,Array.size_append,List.size_toArray,hs.len,zero_size hz hsz hzs,← Nat.add_mul]
   congr 1;omega
  have hget:∀ q,q<xs.length*ty.n→cs[q]?=news[q]?:=fun q hq=>by
   rw [← hcs,Array.getElem?_append_left (by simp [hs.len];exact hq)]
   simp
  have hI0:∀ q,I W.heap.size q=none:=fun q=>ghost_new hi q
  have hL:HInv P (tyOf P) w0 ms (put h f (.arr false e xs.length xs)) (α.set f { b:=W.heap.size,s:=ty.n,w:=xs.length,c:=cap }) I (W.drew.alloc (.cells cs e)):=by
   refine hi.new hf (fun _=>Nat.le_refl _) (Stp.below ((Below.refl _ _).drew.alloc (Nat.le_refl _) _)) (.refl _) (fun b q v hv=>.inl hv) (fun b q hb hq=>hq) (fun h=>nomatch h) ⟨rfl,rfl,rfl,ty,cs,e,hty,rfl,heap_alloc_last W.drew _,⟨by rw [hcn];exact Nat.mul_le_mul_right _ (by omega),fun h=>nomatch h⟩,hI0,fun d hd=>(hs.el d hd).1,fun _ d hd=>⟨hs.el d hd,List.all_eq_true.2 (hs.el d hd).pu⟩,fun j d hd=>(hs.el d (List.mem_of_getElem? hd)).1.len,fun i j d e' h1 h2=>?_⟩
   obtain⟨v,f1,f2⟩:=hs.den i j d e' h1 h2
   have hel:=hs.el d (List.mem_of_getElem? h1)
   have hi':i<xs.length:=(List.getElem?_eq_some_iff.1 h1).1
   have hj:j<ty.n:=by rw [← hel.1.len];exact(List.getElem?_eq_some_iff.1 h2).1
   have h3:(i+1)*ty.n≤xs.length*ty.n:=Nat.mul_le_mul_right _ hi'
   rw [Nat.add_mul]at h3
   exact⟨v,by show cs[i*ty.n+j]?=some v;rw [hget _ (by omega)];exact f1,f2.mono (.refl _) (.non _),hel.ones e' (List.mem_of_getElem? h2)⟩
  refine⟨.value (.slice (some ⟨W.heap.size,0,none⟩) (0+xs.length) cap),_,_,_,_,?_,.inl rfl,.refl _,Al.set_le (hi.fresh hf),hL,?_⟩
  ·unfold execOp
   simp only [ho,resolve,invoke,builtin,Sem.run_bind,Sem.run_pure,Result.andThen_ok,List.map_toArray,List.map_cons,List.map_nil,hx,hrun]
  rw [Nat.zero_add]
  exact .ar (r:={ b:=W.heap.size,s:=ty.n,w:=xs.length,c:=cap }) Al.set_eq (by simp) (by omega) fun _=>by simp
theorem app_none(hi:HInv P (tyOf P) w0 ms h α I W){t tx e:TypeId}{x y:Operand}{ty:Ty}{f:Nat}{A:Option Addr}{l:List D}{news:List Value}{kn kn':Bool}{tk:Tok}(ho:o.op=.call { callee:=.builtin .append,args:=#[x,y],argTypes:=#[t,tx] })
 (hf:at_ h f=.non) (hx:a.eval x=.slice A l.length l.length) (hl:Den (tyOf P) I α (.sl kn' e l tk) (.slice A l.length l.length)) (hs:SrcD P I W e ty [] (a.eval y) news) (hu:P.underlying t=some (.slice e)) (hux:P.underlying tx=some (.slice e)) (hty:tyOf P e=some ty) :
 OkOp P w0 ms o a h α I W (.sl kn e l (.tip f)) [(f,.tip e)]:=by
 obtain⟨hsz,_⟩:=ty_of hty
 have hrun:(Builtin.append_ #[t,tx] o.type #[.slice A l.length l.length,a.eval y]).run P W=.ok (.slice A l.length l.length) W:=by
  have hS:=hs.src hux
  have hn:news=[]:=List.eq_nil_of_length_eq_zero (by have:=hs.len;simpa using this)
  subst hn
  cases hie:P.info? e with
  | none=>simp [szOf,hie]at hsz
  | some i =>
   have hs':i.size=ty.n:=by simpa [szOf,hie]using hsz
   have h1:=hS.len
   have h2:=hS.cells
   simp only [List.length_nil]at h1 h2
   cases A<;>simp [Builtin.append_,run_underlying hu,sizeOf,typeInfo,hie,run_underlying hux,h1,hs',h2,storeCells]
 have hL:HInv P (tyOf P) w0 ms (put h f (.tip e)) (α.set f { b:=0,s:=ty.n,w:=l.length,c:=l.length,v:=true }) I W :=
  hi.new hf (fun h=>nomatch h) ⟨rfl,rfl,rfl,Nat.le_refl _,fun _ _ _=>rfl⟩ (.refl _) (fun b q v hv=>.inl hv) (fun _ _ _ h=>h) (fun h=>nomatch h) (.inl rfl)
 refine⟨.value (.slice A l.length l.length),_,_,_,I,?_,.inl rfl,.refl _,Al.set_le (hi.fresh hf),hL,?_⟩
 ·unfold execOp
  simp only [ho,resolve,invoke,builtin,Sem.run_bind,Sem.run_pure,Result.andThen_ok,List.map_toArray,List.map_cons,List.map_nil,hx,hrun]
 cases hl with
 | sl hc hk hm=>exact .sl (Nat.le_refl _) ⟨_,Al.set_eq,rfl,rfl,(fun h=>nomatch h),fun _=>rfl⟩ fun hne=>(hm hne).mono (.refl _) (Al.set_le (hi.fresh hf))
theorem put_dead{n m:Nat}(hm:(at_ (put h n .dead) m).live=true):m≠n∧at_ (put h n .dead) m=at_ h m:=by
 rw [at_put]at hm ⊢
 split at hm
 ·cases hm
 rename_i hne;rw [if_neg hne];exact⟨hne,rfl⟩
theorem app_room(hi:HInv P (tyOf P) w0 ms h α I W){t tx e:TypeId}{x y:Operand}{ty:Ty}{n f:Nat}{r:Reg}{l xs:List D}{news:List Value}{kn kn':Bool}(ho:o.op=.call { callee:=.builtin .append,args:=#[x,y],argTypes:=#[t,tx] })
 (hf:at_ h f=.non) (hn:at_ h n=.tip e) (hr:α n=some r) (hv:r.v=false) (hlw:l.length=r.w) (hx:a.eval x=.slice (some ⟨r.b,0,none⟩) l.length r.c) (hl:Den (tyOf P) I α (.sl kn' e l (.tip n)) (.slice (some ⟨r.b,0,none⟩) l.length r.c)) (hs:SrcD P I W e ty xs (a.eval y) news)
 (hu:P.underlying t=some (.slice e)) (hux:P.underlying tx=some (.slice e)) (hty:tyOf P e=some ty) (hg:l.length+xs.length≤r.c) :
 OkOp P w0 ms o a h α I W (.sl kn e (l++xs) (.tip f)) [(n,.dead),(f,.tip e)]:=by
 obtain⟨hsz,_⟩:=ty_of hty
 obtain⟨r0,g1,g2,g3⟩:=hi.liv n (by rw [hn];rfl)
 rw [hr]at g1;obtain rfl:=Option.some.inj g1
 rw [hn]at g3
 rcases g3 with hv'|⟨_,ty',cc,tt,g4,g5,g6,g7,g8,g9⟩
 ·rw [hv]at hv';cases hv'
 rw [hty]at g4;obtain rfl:=Option.some.inj g4
 have hcs:l.length*ty.n+xs.length*ty.n≤cc.size:=by
  rw [← Nat.add_mul];exact Nat.le_trans (Nat.mul_le_mul_right _ hg) g8
 have hsp:l.length*ty.n+news.toArray.size≤cc.size:=by simpa [hs.len]using hcs
 have hrun:(Builtin.append_ #[t,tx] o.type #[.slice (some ⟨r.b,0,none⟩) l.length r.c,a.eval y]).run P W=.ok (.slice (some ⟨r.b,0,none⟩) (l.length+xs.length) r.c) (W.setRow r.b (splice cc (l.length*ty.n) news.toArray)):=by
  have hS:=hs.src hux
  cases hie:P.info? e with
  | none=>simp [szOf,hie]at hsz
  | some i =>
   have hs':i.size=ty.n:=by simpa [szOf,hie]using hsz
   have hst:=run_storeCells_at (P:=P) r.b (l.length*ty.n) tt news 0 cc W g6 (by rw [hs.len];omega) hs.one
   simp only [Nat.add_zero]at hst
   simp [Builtin.append_,run_underlying hu,sizeOf,typeInfo,hie,run_underlying hux,hS.len,hg,hs',hS.cells,Addr.add_lit,hst,splice]
 have hfn:f≠n:=by rintro rfl;rw [hf]at hn;cases hn
 have hf':at_ (put h n .dead) f=.non:=by rw [at_put,if_neg hfn];exact hf
 have hlt:r.b<W.heap.size:=(Array.getElem?_eq_some_iff.1 g6).1
 generalize hcq:splice cc (l.length*ty.n) news.toArray=cq at hrun
 have hcell:∀ q,(W.setRow r.b cq).cell? ⟨r.b,q,none⟩=cq[q]?:=fun q=>cell_of_row _ r.b q cq tt (0,0) (by rw [World.setRow,Array.getElem?_modify,if_pos rfl,g6];rfl)
 have hget:∀ q,cq[q]?=if l.length*ty.n≤q∧q<l.length*ty.n+xs.length*ty.n then news[q-l.length*ty.n]? else cc[q]?:=fun q=>by
  rw [← hcq,splice_get hsp];simp [hs.len]
 have hle:LeI I (I.lay r.b cq (l.length*ty.n) ((l.length+xs.length)*ty.n)):=Gh.lay_le fun q h1 _=>g9 q (by rw [← hlw];exact h1)
 have hL:HInv P (tyOf P) w0 ms (put (put h n .dead) f (.tip e)) (α.set f { r with w:=l.length+xs.length }) (I.lay r.b cq (l.length*ty.n) ((l.length+xs.length)*ty.n)) (W.setRow r.b cq):=by
  refine hi.step (X:=[r.b]) ⟨rfl,rfl,rfl,by simp [World.setRow],fun b hb hn=>heap_setRow_other W r.b b _ (by simpa using hn)⟩ (fun b hb=>by obtain rfl:=List.mem_singleton.1 hb;exact(g2 hv).imp id And.left) hle (fun b q hb _ hq=>by
   have hrb:w0.heap.size≤r.b:=(g2 hv).elim id fun h=>absurd hn (h.2 e)
   unfold Gh.lay
   rw [if_neg (by rintro⟨e',_⟩;omega)];exact hq) (Al.set_le (hi.fresh hf)) (fun m r' hm=>?_) (fun b q v hq=>?_) fun m hm=>?_
  ·rw [at_put];split
   ·intro h;cases h
   rename_i hmf
   rw [at_put];split
   ·intro h;cases h
   simp only [Al.set,if_neg hmf]at hm;exact hi.dom m r' hm
  ·unfold Gh.lay at hq
   split at hq
   ·rename_i hc
    refine .inr ?_
    rw [hc.1,hcell];exact hq
   rename_i hc
   by_cases hb:b=r.b
   ·subst hb
    refine .inr ?_
    have hql:q<r.w*ty.n:=by
     rcases Nat.lt_or_ge q (r.w*ty.n)with h|h
     ·exact h
     rw [g9 q h]at hq;cases hq
    rw [hcell,hget,if_neg (by rw [hlw];omega)]
    have:=hi.gh _ _ _ hq
    rw [cell_of_row W r.b q cc tt (0,0) g6]at this
    exact this
   exact .inl ⟨hq,by simpa using hb⟩
  by_cases hmf:m=f
  ·subst hmf
   refine .inr ⟨_,Al.set_eq,fun h=>.inl ((g2 h).elim id fun h=>absurd hn (h.2 e)),?_,fun _ m' r' hm' hl' hr' hv'=>?_⟩
   ·rw [at_put,if_pos rfl]
    refine .inr ⟨hv,ty,cq,tt,hty,g5,by rw [World.setRow,Array.getElem?_modify,if_pos rfl,g6];rfl,hg,by rw [← hcq,splice_size hsp];exact g8,fun q hq=>?_⟩
    have hq':(l.length+xs.length)*ty.n≤q:=hq
    unfold Gh.lay
    rw [if_neg (by rintro⟨_,_,h3⟩;omega)]
    refine g9 q ?_
    rw [Nat.add_mul]at hq'
    rw [← hlw];omega
   rw [at_put,if_neg hm']at hl'
   obtain⟨k1,k2⟩:=put_dead hl'
   simp only [Al.set,if_neg hm']at hr'
   rw [k2]at hl'
   exact hi.sep m' n r' r k1 hl' (by rw [hn];rfl) hr' hr hv' hv
  rw [at_put,if_neg hmf]at hm ⊢
  obtain⟨k1,k2⟩:=put_dead hm
  rw [k2]at hm ⊢
  refine .inl ⟨rfl,fun r' hr' hv'=>?_⟩
  have hne:=hi.sep m n r' r k1 hm (by rw [hn];rfl) hr' hr hv' hv
  refine⟨by simpa using hne,fun q hq=>?_⟩
  unfold Gh.lay
  rw [if_neg (by rintro⟨h1,_⟩;exact hne h1)];exact hq
 refine⟨.value (.slice (some ⟨r.b,0,none⟩) (l.length+xs.length) r.c),_,_,_,_,?_,.inl rfl,hle,Al.set_le (hi.fresh hf),hL,?_⟩
 ·unfold execOp
  simp only [ho,resolve,invoke,builtin,Sem.run_bind,Sem.run_pure,Result.andThen_ok,List.map_toArray,List.map_cons,List.map_nil,hx,hrun]
 have hll:(l++xs).length=l.length+xs.length:=List.length_append
 have holds:∀ (i j:Nat) d e',l[i]?=some d→d.cells[j]?=some e'→ElOk ty d∧∃ v,I r.b (i*ty.n+j)=some v∧Den (tyOf P) I non e' v:=fun i j d e' h1 h2=>by
  cases hl with
  | sl hc hk hm =>
   have hm:=hm (by rintro rfl;simp at h1)
   cases hm with
   | mem g ht he hI hd =>
    rename_i ty'
    rw [hty]at ht;obtain rfl:=Option.some.inj ht
    have hel:=he d (List.mem_of_getElem? h1)
    have hi':i<l.length:=(List.getElem?_eq_some_iff.1 h1).1
    have hj:j<ty.n:=by rw [← hel.1.len];exact(List.getElem?_eq_some_iff.1 h2).1
    have h3:(i+1)*ty.n≤l.length*ty.n:=Nat.mul_le_mul_right _ hi'
    rw [Nat.add_mul]at h3
    have:=hI (i*ty.n+j) (by omega)
    rw [Nat.zero_add]at this
    exact⟨hel,_,this,hd i j d e' h1 h2⟩
 have hell:∀ d∈l,ElOk ty d:=by
  cases hl with
  | sl hc hk hm =>
   intro d hd
   have hm:=hm (by rintro rfl;simp at hd)
   cases hm with
   | mem g ht he hI hdd =>
    rw [hty]at ht;obtain rfl:=Option.some.inj ht
    exact he d hd
 have h5:(l++xs).length*ty.n=l.length*ty.n+xs.length*ty.n:=by rw [hll,Nat.add_mul]
 rw [← hll]at hle ⊢
 refine .sl (by rw [hll];exact hg) ⟨_,Al.set_eq,rfl,rfl,(fun _=>rfl),fun h=>by rw [hv]at h;cases h⟩ fun _=>mem_den hty (fun d hd=>?_) fun i j d e' h1 h2=>?_
 ·rcases List.mem_append.1 hd with hd|hd
  ·exact hell d hd
  exact hs.el d hd
 rw [Nat.zero_add]
 by_cases hil:i<l.length
 ·rw [List.getElem?_append_left hil]at h1
  obtain⟨_,v,f1,f2⟩:=holds i j d e' h1 h2
  exact⟨v,hle _ _ _ f1,f2.mono hle (.refl _)⟩
 rw [List.getElem?_append_right (by omega)]at h1
 obtain⟨v,f1,f2⟩:=hs.den (i-l.length) j d e' h1 h2
 have hj:j<ty.n:=by rw [← (hs.el d (List.mem_of_getElem? h1)).1.len];exact(List.getElem?_eq_some_iff.1 h2).1
 have hi':i-l.length<xs.length:=(List.getElem?_eq_some_iff.1 h1).1
 have h3:(i-l.length+1)*ty.n≤xs.length*ty.n:=Nat.mul_le_mul_right _ hi'
 rw [Nat.add_mul]at h3
 have h4:l.length*ty.n+(i-l.length)*ty.n=i*ty.n:=by rw [← Nat.add_mul];congr 1;omega
 refine⟨v,?_,f2.mono hle (.refl _)⟩
 rw [Gh.lay_at (by omega) (by omega),hget,if_pos (by omega),← f1]
 congr 1;omega
end
end Z
namespace Z
section
variable {P:Program}{E:LId→LSt→M Rd1}{Γ:Cn}{w0:World}{ms:Ms}{h:Heap}{α α' β:Al}{I I':Gh}{W W':World}{o:Oper}{a:Act}
theorem srcP_ok(hi:HInv P (tyOf P) w0 ms h α I W){e:TypeId}{ty:Ty}{y:D}{v:Value}{bs:List Blk}{kn:Bool}{xs:List D}(hs:srcP e ty y bs=some (kn,xs))(hv:Den (tyOf P) I α y v)(hty:tyOf P e=some ty)(hbs:∀ kn n i len,y=.ar kn n i len→bs=[at_ h n]):∃ news,SrcD P I W e ty xs v news:=by
 unfold srcP at hs
 split at hs
 ·rename_i kn0 n i len
  split at hs
  ·rename_i kn' e' w l
   have hB:at_ h n=.arr kn' e' w l:=(List.cons.inj (hbs _ _ _ _ rfl)).1.symm
   split at hs
   ·rename_i hee
    subst hee
    split at hs
    ·cases hs
    rename_i hc
    injection hs with hs
    injection hs with h1 h2
    subst h2
    refine srcD_ar hi hv hB hty fun hk d hd=>?_
    cases hall:l.all (elB ty)with
    | true=>exact List.all_eq_true.1 hall d hd
    | false=>exact absurd ⟨hk,hall⟩ hc
   cases hs
  cases hs
 obtain⟨⟨kn',l,tk⟩,h1,h2⟩:=Option.map_eq_some_iff.1 hs
 injection h2 with h2 h3
 subst h3
 exact srcD_sl hi (asL_ok h1 hv) hty
theorem app_ok(hi:HInv P (tyOf P) w0 ms h α I W){t tx:TypeId}{x y:Operand}{dx dy:D}{bs:List Blk}{f:Nat}{re:Re}(ho:o.op=.call { callee:=.builtin .append,args:=#[x,y],argTypes:=#[t,tx] }) (hf:at_ h f=.non) (hx:Den (tyOf P) I α dx (a.eval x)) (hy:Den (tyOf P) I α dy (a.eval y))
 (hbs:bs=(nameT dx++nameA dy).map (at_ h)) (he:Ev E Γ Re (appP P t tx dx dy bs f) re):∃ d us,re=.ok d us∧OkOp P w0 ms o a h α I W d us:=by
 unfold appP at he
 split at he
 ·cases he
 rename_i e hse
 have hu:=slElem_u hse
 split at he
 ·rename_i ty by' z hty hb hz
  split at he
  ·cases he
  rename_i kn l tk hl
  have hx':=asL_ok hl hx
  have hgo:∀ (us:List (Nat×Blk)) (bs:List Blk),(∀ kn n i len,dy=.ar kn n i len→bs=[at_ h n]) →
   (∀ (xs:List D) (news:List Value) (kn2:Bool),SrcD P I W e ty xs (a.eval y) news→P.underlying tx=some (.slice e)→l.length+xs.length≤1099511627776→by'≤64→z.cells.size=ty.n→OkOp P w0 ms o a h α I W (.sl kn2 e (l++xs) (.tip f)) (us++[(f,.tip e)])) →
   Ev E Γ Re (match (if slElem P tx=some e then srcP e ty dy bs else none)with
    | none=>.bad 72
    | some (kn',xs)=>if by'≤64∧0<ty.n∧z.cells.size=ty.n then needK (decide (l.length+xs.length≤1099511627776)) (kn && kn') (.pure (.ok (.sl (kn && kn') e (l++xs) (.tip f)) (us++[(f,.tip e)])))else .bad 73) re→∃ d us,re=.ok d us∧OkOp P w0 ms o a h α I W d us:=by
   intro us bs hbs hk he
   split at he
   ·cases he
   rename_i kn' xs hsr
   split at hsr
   ·rename_i hsx
    split at he
    ·rename_i hc
     obtain⟨hlen,he⟩:=ev_needK he
     obtain rfl:=ev_pure he
     obtain⟨news,hs⟩:=srcP_ok hi hsr hy hty hbs
     exact⟨_,_,rfl,hk xs news _ hs (slElem_u hsx) (of_decide_eq_true hlen) hc.1 hc.2.2⟩
    cases he
   cases hsr
  generalize hvx:a.eval x=vx at hx'
  cases hx' with
  | sl hc hk hm =>
   rename_i A c
   obtain⟨olds,hold⟩:=srcD_sl hi (.sl (kn:=kn) hc hk hm) hty
   have full:∀ {h:Heap} (hi:HInv P (tyOf P) w0 ms h α I W) (hf:at_ h f=.non),c=l.length→∀ (xs:List D) (news:List Value) (kn2:Bool),SrcD P I W e ty xs (a.eval y) news→P.underlying tx=some (.slice e)→l.length+xs.length≤1099511627776→by'≤64→z.cells.size=ty.n→OkOp P w0 ms o a h α I W (.sl kn2 e (l++xs) (.tip f)) [(f,.tip e)]:=by
    intro h hi hf hcl xs news kn2 hs hux h1 h2 h3
    subst hcl
    cases xs with
    | nil =>
     rw [List.append_nil]
     exact app_none hi ho hf hvx (.sl (kn:=kn) hc hk hm) hs hu hux hty
    | cons d xs=>exact app_grow hi ho hf hvx hold hs hu hux hty hz h3 hb h2 h1 (by simp)
   have nobs:nameT dx=[]→∀ kn n i len,dy=.ar kn n i len→bs=[at_ h n]:=fun h0 kn n i len hd=>by
    rw [hbs,h0,hd];rfl
   have nt:nameT dx=nameT (.sl kn e l tk):=by
    unfold asL at hl
    split at hl
    ·split at hl
     ·rename_i hte;injection hl with hl;injection hl with h1 h2;injection h2 with h2 h3;subst h1;subst h2;subst h3;subst hte;rfl
     cases hl
    ·injection hl with hl;injection hl with h1 h2;injection h2 with h2 h3;subst h1;subst h2;subst h3;rfl
    ·injection hl with hl;injection hl with h1 h2;injection h2 with h2 h3;subst h1;subst h2;subst h3;rfl
    cases hl
   dsimp only at he
   split at he
   ·rename_i hown
    unfold isOwn at hown
    simp only [Bool.and_eq_true]at hown
    obtain⟨hl0,hkn⟩:=hown
    unfold appN at he
    split at he
    ·cases he
    rename_i kn' xs hsr
    unfold srcN at hsr
    split at hsr
    ·rename_i hsx
     rcases ev_ite he with ⟨⟨q1,q2,q3⟩,he2⟩|⟨_,he2⟩
     ·cases he2 with
      | need hlen he2 =>
       obtain rfl:=ev_pure he2
       have hlen:=of_decide_eq_true hlen
       obtain⟨news,hs⟩:=srcP_ok hi hsr hy hty (nobs (by
        unfold lit0 at hl0
        split at hl0
        ·rfl
        cases hl0))
       have hxl:l=[]∧tk=.full:=by
        unfold lit0 at hl0
        split at hl0
        ·unfold asL at hl
         dsimp only at hl
         split at hl
         ·injection hl with hl;injection hl with h1 h2;injection h2 with h2 h3;exact⟨h2.symm,h3.symm⟩
         cases hl
        cases hl0
       obtain⟨rfl,rfl⟩:=hxl
       have hc0:c=0:=hk
       subst hc0
       exact⟨_,_,rfl,app_own hi ho hf hvx hs hu (slElem_u hsx) hty hz q3 hb q1 hlen.2 hlen.1⟩
     cases he2
    cases hsr
   rename_i hno
   clear hno
   cases tk with
   | non=>cases he
   | full=>exact hgo [] bs (nobs nt) (full hi hf hk) he
   | nil=>exact hgo [] bs (nobs nt) (full hi hf (by obtain⟨_,h1,h2⟩:=hk;omega)) he
   | tip n =>
    dsimp only at he
    split at he
    ·rename_i e' bs'
     rw [nt]at hbs
     obtain⟨hb1,hb2⟩:=List.cons.inj (hbs:_=at_ h n::_)
     split at he
     ·rename_i hee
      subst hee
      obtain⟨r,hr,k1,k2,k3,k4⟩:=hk
      have hfn:f≠n:=by rintro rfl;rw [hf]at hb1;cases hb1
      have hi2:=hi.kill n
      have hf2:at_ (put h n .dead) f=.non:=by rw [at_put,if_neg hfn];exact hf
      refine hgo [(n,.dead)] bs' (fun kn n i len hd=>by rw [hb2,hd];rfl) (fun xs news kn2 hs hux g1 g2 g3=>?_) he
      have kill:OkOp P w0 ms o a (put h n .dead) α I W (.sl kn2 e' (l++xs) (.tip f)) [(f,.tip e')]→OkOp P w0 ms o a h α I W (.sl kn2 e' (l++xs) (.tip f)) ([(n,.dead)]++[(f,.tip e')]):=id
      cases hv:r.v with
      | true=>exact kill (full hi2 hf2 (k4 hv) xs news kn2 hs hux g1 g2 g3)
      | false =>
       by_cases hroom:l.length+xs.length≤c
       ·obtain rfl:=k3 hv
        subst k2
        exact app_room hi ho hf hb1.symm hr hv k1 hvx (.sl (kn:=kn) hc ⟨r,hr,k1,rfl,k3,k4⟩ hm) hs hu hux hty hroom
       exact kill (app_grow hi2 ho hf2 hvx hold hs hu hux hty hz g3 hb g2 g1 (by omega))
     cases he
    cases he
 cases he
end
end Z
namespace Z
section
variable {P:Program}{E:LId→LSt→M Rd1}{Γ:Cn}{w0:World}{ms:Ms}{h:Heap}{α α' β:Al}{I I':Gh}{W W':World}{o:Oper}{a:Act}
theorem one_cell{ty:Ty}{d e:D}{j:Nat}(hrow:ty.row=false)(hn:ty.n=1)(hs:SzOk ty d)(he:d.cells[j]?=some e):j=0∧e=d:=by
 unfold SzOk at hs
 rw [hrow]at hs
 rw [cells_one hs.1]at he
 cases j with
 | zero=>exact⟨rfl,by simpa using he.symm⟩
 | succ j=>simp at he
theorem cell_one{ty:Ty}{d:D}(hrow:ty.row=false)(hs:SzOk ty d):d.cells=[d]:=by
 unfold SzOk at hs
 rw [hrow]at hs
 exact cells_one hs.1
theorem copy_ok(hi:HInv P (tyOf P) w0 ms h α I W){t tx:TypeId}{x y:Operand}{dx dy:D}{bs:List Blk}{re:Re}(ho:o.op=.call { callee:=.builtin .copy,args:=#[x,y],argTypes:=#[t,tx] }) (hx:Den (tyOf P) I α dx (a.eval x)) (hy:Den (tyOf P) I α dy (a.eval y))
 (hbs:∀ kn n i len,dx=.ar kn n i len→bs=(n::nameA dy).map (at_ h)) (he:Ev E Γ Re (copyP P t tx dx dy bs) re):∃ d us,re=.ok d us∧OkOp P w0 ms o a h α I W d us:=by
 unfold copyP at he
 split at he
 ·rename_i e kn n i len B bs' hse
  have hu:=slElem_u hse
  obtain⟨hB,hbs'⟩:=List.cons.inj (hbs _ _ _ _ rfl:_=at_ h n::(nameA dy).map (at_ h))
  split at he
  ·rename_i kna e' w l ty hty
   split at he
   ·rename_i hc
    obtain⟨rfl,hrow,hn1,hsx,hcl⟩:=hc
    split at he
    ·rename_i kn' xs hsr
     obtain⟨news,hs⟩:=srcP_ok hi hsr hy hty (fun kn n i len hd=>by rw [hbs',hd];rfl)
     generalize hvx:a.eval x=vx at hx
     cases hx with
     | ar hr hw hc2 hA =>
      rename_i c r A
      obtain⟨hv,hrw,hlw,ty',cc,tt,h1,h2,h3,h4,h5,h6,h7,h8⟩:=hi.arr hB.symm hr
      rw [hty]at h1;obtain rfl:=Option.some.inj h1
      obtain⟨hsz,_⟩:=ty_of hty
      have hlen:news.length=xs.length:=by rw [hs.len,hn1,Nat.mul_one]
      have hcl2:∀ d∈l,ElOk ty d:=fun d hd=>by
       rcases hcl with rfl|hcl
       ·exact(h7 rfl d hd).1
       exact(elB_el (List.all_eq_true.1 hcl d hd)).1
      have hil:i+len≤l.length:=by omega
      obtain⟨m,hm⟩:∃ m,m=min len xs.length:=⟨_,rfl⟩
      rw [← hm]at he
      have hcc:l.length≤cc.size:=by have:=h4.1;rwa [hn1,Nat.mul_one]at this
      have hcc2:kna=true→cc.size=l.length:=fun hk=>by rw [h4.2 hk,hn1,Nat.mul_one]
      have hget:∀ (q:Nat) d,l[q]?=some d→∃ v,cc[q]?=some v∧Den (tyOf P) I α d v∧d.one=true:=fun q d hd=>by
       have hcd:=cell_one hrow (h6 d (List.mem_of_getElem? hd))
       obtain⟨v,f1,f2⟩:=h8.2 q 0 d d hd (by rw [hcd];rfl)
       rw [hn1,Nat.mul_one,Nat.add_zero]at f1
       exact⟨v,f1,f2⟩
      have hnew:∀ (q:Nat) d,xs[q]?=some d→∃ v,news[q]?=some v∧Den (tyOf P) I α d v∧d.one=true:=fun q d hd=>by
       have hel:=hs.el d (List.mem_of_getElem? hd)
       have hcd:=cell_one hrow hel.1
       obtain⟨v,f1,f2⟩:=hs.den q 0 d d hd (by rw [hcd];rfl)
       rw [hn1,Nat.mul_one,Nat.add_zero]at f1
       exact⟨v,f1,f2.mono (.refl _) (.non _),hel.ones d (by rw [hcd];simp)⟩
      obtain⟨l2,hl2⟩:∃ l2,l2=l.take i++xs.take m++l.drop (i+m):=⟨_,rfl⟩
      have hl2n:l2.length=w:=by rw [hl2];simp;omega
      have hat:∀ q,l2[q]?=if i≤q∧q<i+m then xs[q-i]? else l[q]?:=fun q=>by
       rw [hl2]
       by_cases hq1:q<i
       ·rw [if_neg (by omega),List.append_assoc,List.getElem?_append_left (by simp;omega),List.getElem?_take,if_pos hq1]
       by_cases hq2:q<i+m
       ·rw [if_pos (by omega),List.append_assoc,List.getElem?_append_right (by simp;omega),List.getElem?_append_left (by simp;omega),List.getElem?_take]
        simp only [List.length_take,Nat.min_eq_left (show i≤l.length by omega)]
        rw [if_pos (by omega)]
       rw [if_neg (by omega),List.getElem?_append_right (by simp;omega),List.getElem?_drop]
       simp only [List.length_append,List.length_take,Nat.min_eq_left (show i≤l.length by omega),Nat.min_eq_left (show m≤xs.length by omega)]
       congr 1;omega
      obtain⟨cq,hcq⟩:∃ cq,cq=(cc.toList.take i++news.take m++cc.toList.drop (i+m)).toArray:=⟨_,rfl⟩
      have hcqn:cq.size=cc.size:=by rw [hcq];simp;omega
      have hcat:∀ q,cq[q]?=if i≤q∧q<i+m then news[q-i]? else cc[q]?:=fun q=>by
       rw [hcq]
       simp only [List.getElem?_toArray]
       by_cases hq1:q<i
       ·rw [if_neg (by omega),List.append_assoc,List.getElem?_append_left (by simp;omega),List.getElem?_take,if_pos hq1,Array.getElem?_toList]
       by_cases hq2:q<i+m
       ·rw [if_pos (by omega),List.append_assoc,List.getElem?_append_right (by simp;omega),List.getElem?_append_left (by simp;omega),List.getElem?_take]
        simp only [List.length_take,Array.length_toList,Nat.min_eq_left (show i≤cc.size by omega)]
        rw [if_pos (by omega)]
       rw [if_neg (by omega),List.getElem?_append_right (by simp;omega),List.getElem?_drop,Array.getElem?_toList]
       simp only [List.length_append,List.length_take,Array.length_toList,Nat.min_eq_left (show i≤cc.size by omega),Nat.min_eq_left (show m≤news.length by omega)]
       congr 1;omega
      have hrun:∃ W',(Builtin.copy_ #[t,tx] o.type #[.slice A len c,a.eval y]).run P W=.ok (goInt m) W'∧W'=W.setRow r.b cq:=by
       obtain⟨Bs,cs,hys,hyc⟩:=hs.hdr
       rw [hys]
       have hmin:Nat.min xs.length len=m:=by rw [hm];exact Nat.min_comm _ _
       rcases Nat.eq_zero_or_pos m with h0|h0
       ·refine⟨W,?_,?_⟩
        ·rw [run_copy_none (P:=P) W t tx o.type e' A Bs len c xs.length cs hu (by rw [← hn1];exact hsz) (by rw [hmin,h0]),h0];rfl
        have:cq=cc:=by
         rw [hcq,h0];simp
        rw [this]
        have hh:(W.setRow r.b cc).heap=W.heap:=by
         apply Array.ext_getElem?
         intro q
         simp only [World.setRow,Array.getElem?_modify]
         split
         ·rename_i hq;subst hq;rw [h3];rfl
         rfl
        exact(show W={ W.setRow r.b cc with heap:=W.heap } from rfl).trans (by rw [← hh])
       obtain⟨b,q,rfl,hyc2⟩:=hyc (by omega)
       have hA:=hA (by omega)
       subst hA
       refine⟨_,?_,rfl⟩
       have:=run_copy_row (P:=P) W t tx o.type e' r.b (i*r.s) len c ⟨b,q,none⟩ xs.length cs cc tt (news.take m) hu (by rw [← hn1];exact hsz) h3 (by rw [hmin];simp;omega) (fun j v hv=>by
        rw [add_zero_addr]
        rw [List.getElem?_take]at hv
        split at hv
        ·exact hyc2 j v hv
        cases hv) (by rw [h2,hn1];simp;omega) (fun v hv=>hs.one v (List.mem_of_mem_take hv))
       rw [h2,hn1,Nat.mul_one]at this ⊢
       rw [this,hcq]
       simp [Nat.min_eq_left (show m≤news.length by omega)]
      obtain⟨W',hrun,rfl⟩:=hrun
      have fin:∀ kn2:Bool,(kn2=true→kna=true)→(kn2=false→∀ d∈l2,ElOk ty d∧d.cells.all D.pure=true)→∀ dd,Den (tyOf P) I α dd (goInt m)→OkOp P w0 ms o a h α I W dd [(n,.arr kn2 e' w l2)]:=by
       intro kn2 hk3 hk2 dd hdd
       refine⟨.value (goInt m),_,W.setRow r.b cq,α,I,?_,.inl rfl,.refl _,.refl _,?_,hdd⟩
       ·unfold execOp
        simp only [ho,resolve,invoke,builtin,Sem.run_bind,Sem.run_pure,Result.andThen_ok,List.map_toArray,List.map_cons,List.map_nil,hvx,hrun]
       refine hi.reput hr hv (by rw [← hB];rfl) ⟨rfl,rfl,rfl,by simp [World.setRow],fun b hb hn=>heap_setRow_other W r.b b _ (by simpa using hn)⟩ h5 (fun h=>nomatch h) (fun _ h=>nomatch h) ⟨hv,hrw,hl2n,ty,cq,tt,hty,h2,by rw [World.setRow,Array.getElem?_modify,if_pos rfl,h3];rfl,by rw [hl2n,hcqn,hn1,Nat.mul_one];exact⟨by omega,fun hk=>by rw [hcc2 (hk3 hk)];exact hlw⟩,h5,fun d hd=>?_,hk2,fun q d hd=>?_,fun q j d e2 hd he2=>?_⟩
       ·obtain⟨q,hq,rfl⟩:=List.getElem_of_mem hd
        have:=List.getElem?_eq_getElem hq
        rw [hat]at this
        split at this
        ·exact(hs.el _ (List.mem_of_getElem? this)).1
        exact h6 _ (List.mem_of_getElem? this)
       ·rw [hat]at hd
        split at hd
        ·exact(hs.el _ (List.mem_of_getElem? hd)).1.len
        exact(h6 _ (List.mem_of_getElem? hd)).len
       show ∃ x,cq[q*ty.n+j]?=some x∧_
       rw [hat]at hd
       have hsd:SzOk ty d:=by
        split at hd
        ·exact(hs.el _ (List.mem_of_getElem? hd)).1
        exact h6 _ (List.mem_of_getElem? hd)
       obtain⟨rfl,rfl⟩:=one_cell hrow hn1 hsd he2
       rw [hn1,Nat.mul_one,Nat.add_zero,hcat]
       split at hd
       ·rename_i hq;rw [if_pos hq];exact hnew _ _ hd
       rename_i hq;rw [if_neg hq];exact hget _ _ hd
      rw [← hl2]at he
      split at he
      ·rename_i hk
       obtain rfl:=ev_pure he
       exact⟨_,_,rfl,fin true (fun _=>hk.2.2) (fun h=>nomatch h) _ (.k rfl)⟩
      obtain rfl:=ev_pure he
      refine⟨_,_,rfl,fin false (fun h=>nomatch h) (fun _ d hd=>?_) _ (.v rfl)⟩
      have hel:ElOk ty d:=by
       obtain⟨q,hq,rfl⟩:=List.getElem_of_mem hd
       have:=List.getElem?_eq_getElem hq
       rw [hat]at this
       split at this
       ·exact hs.el _ (List.mem_of_getElem? this)
       exact hcl2 _ (List.mem_of_getElem? this)
      exact⟨hel,List.all_eq_true.2 hel.pu⟩
    cases he
   cases he
  cases he
 cases he
end
end Z
namespace Z
section
variable {P:Program}{E:LId→LSt→M Rd1}{Γ:Cn}{w0:World}{ms:Ms}{h:Heap}{α α' β:Al}{I I':Gh}{W W':World}{o:Oper}{a:Act}
theorem mkSl_ok(hi:HInv P (tyOf P) w0 ms h α I W){t:TypeId}{x y:Operand}{dx dy:D}{f:Nat}{re:Re}(ho:o.op=.makeSlice t x y)(hf:at_ h f=.non)(hx:Den (tyOf P) I α dx (a.eval x))(hy:Den (tyOf P) I α dy (a.eval y))(he:Ev E Γ Re (mkSl P t dx dy f) re):∃ d us,re=.ok d us∧OkOp P w0 ms o a h α I W d us:=by
 unfold mkSl at he
 split at he
 ·rename_i e kn n kn' m hse e1 e2
  have hu:=slElem_u hse
  obtain⟨k1,hk1⟩:=asI_ok e1 hx
  obtain⟨k2,hk2⟩:=asI_ok e2 hy
  split at he
  ·rename_i ty z by' hty hz hb
   split at he
   ·rename_i hc
    obtain⟨hby,hsz,hel⟩:=hc
    obtain⟨hnm,he2⟩:=ev_needK he
    clear he
    obtain⟨h0,hnm3,hn⟩:=of_decide_eq_true hnm
    subst hnm3
    obtain⟨knz,he2⟩:∃ knz,Ev E Γ Re (.pure (.ok (.ar knz f 0 n.toNat) [(f,.arr knz e n.toNat (List.replicate n.toNat z))])) re:=by
     split at he2
     ·exact⟨_,by rw [zr_eq]at he2;exact he2⟩
     exact⟨_,he2⟩
    obtain rfl:=ev_pure he2
    obtain⟨zv,hzv,hzd⟩:=zeroD_ok (I:=I) (α:=α) hz
    obtain⟨hsz1,_⟩:=ty_of hty
    refine⟨_,_,rfl,?_⟩
    cases hie:P.info? e with
    | none=>simp [szOf,hie]at hsz1
    | some i =>
     have hz':i.zero=some zv:=by simpa [zeroOf,hie]using hzv
     have hs':i.size=ty.n:=by simpa [szOf,hie]using hsz1
     have hb':i.bytes=by':=by simpa [bytes,hie]using hb
     have hrun:=run_make (P:=P) W t e i zv hu hie hz' k1 k2 n n h0 (Int.le_refl _) (by
      rw [hb']
      have h1:(by':Int)≤64:=by omega
      calc (by':Int)*n≤64*n:=Int.mul_le_mul_of_nonneg_right h1 h0
       _≤_:=by omega) (by omega)
     rw [hs']at hrun
     obtain⟨q1,q2⟩:=szB_ok hsz
     obtain⟨r1,r2⟩:=hzd.cells q2
     have hzn:zv.cells.size=ty.n:=by rw [r1,q1.len]
     have hL:Laid (tyOf P) I α ty.n (List.replicate n.toNat z) fun q=>(madeCells zv.cells (n.toNat*ty.n))[q]?:=by
      refine⟨fun j d hd=>?_,fun q j d e' hd he'=>?_⟩
      ·rw [List.getElem?_replicate]at hd
       split at hd
       ·obtain rfl:=Option.some.inj hd;exact q1.len
       cases hd
      rw [List.getElem?_replicate]at hd
      split at hd
      ·rename_i hq
       obtain rfl:=Option.some.inj hd
       obtain⟨v,f1,f2⟩:=r2 j e' he'
       have hj:j<ty.n:=by rw [← q1.len];exact(List.getElem?_eq_some_iff.1 he').1
       have h3:(q+1)*ty.n≤n.toNat*ty.n:=Nat.mul_le_mul_right _ hq
       rw [Nat.add_mul]at h3
       refine⟨v,?_,f2⟩
       show(madeCells zv.cells (n.toNat*ty.n))[q*ty.n+j]?=some v
       have hmod:(q*ty.n+j) % ty.n=j:=by rw [Nat.add_comm,Nat.add_mul_mod_self_right,Nat.mod_eq_of_lt hj]
       have hlt:q*ty.n+j<n.toNat*ty.n:=by omega
       simp [madeCells,hlt,hzn,hmod,f1,getElem!_def]
      cases hd
     have hA:=new_arr hi hf (kn:=knz) (w:=n.toNat) (e:=e) (tt:=e) (l:=List.replicate n.toNat z) (c:=madeCells zv.cells (n.toNat*ty.n)) hty (by simp) (by simp [madeCells]) (fun d hd=>by rw [List.eq_of_mem_replicate hd];exact q1)
      (fun _ d hd=>by rw [List.eq_of_mem_replicate hd];exact⟨(elB_el hel).1,List.all_eq_true.2 (elB_el hel).1.pu⟩) hL
     refine⟨.value (.slice (some ⟨W.heap.size,0,none⟩) n.toNat n.toNat),_,_,_,I,?_,.inl rfl,.refl _,Al.set_le (hi.fresh hf),hA,.ar (r:={ b:=W.heap.size,s:=ty.n,w:=n.toNat,c:=n.toNat }) Al.set_eq (by simp) (Nat.le_refl _) fun _=>by simp⟩
     unfold execOp
     simp only [ho,hk1,hk2,Sem.run_bind,hrun,Result.andThen_ok,Sem.run_pure]
   cases he
  cases he
 cases he
theorem mapT_u{t:TypeId}{kk:IntKind}{e:TypeId}(h:mapT P t=some (kk,e)):∃ kt,P.underlying t=some (.map kt e)∧P.underlying kt=some (.int kk):=by
 unfold mapT at h
 split at h
 ·rename_i k e' hu
  split at h
  ·rename_i k' hk
   injection h with h;injection h with h1 h2;subst h1;subst h2
   exact⟨k,hu,hk⟩
  cases h
 cases h
theorem mkMap_ok(hi:HInv P (tyOf P) w0 ms h α I W){t:TypeId}{f:Nat}{re:Re}(ho:o.op=.makeMap t none)(hf:at_ h f=.non)(he:Ev E Γ Re (mkMap P t f) re):∃ d us,re=.ok d us∧OkOp P w0 ms o a h α I W d us:=by
 unfold mkMap at he
 split at he
 ·rename_i kk e hm
  obtain⟨kt,hu,hk⟩:=mapT_u hm
  split at he
  ·rename_i ty hty
   obtain rfl:=ev_pure he
   have hA:HInv P (tyOf P) w0 ms (put h f (.map true t [])) (α.set f { b:=W.heap.size,s:=0,w:=0,c:=0 }) I (W.alloc (.map #[] 0)):=by
    refine hi.new hf (fun _=>Nat.le_refl _) (Stp.below (St.below_alloc _ _)) (.refl _) (fun b o' x hx=>.inl hx) (fun _ _ _ h=>h) (fun h=>nomatch h) ⟨rfl,kt,e,kk,ty,[],0,hu,hk,hty,heap_alloc_last W _,(fun q hq=>by simp at hq),by simp,(fun p hp=>by simp at hp),fun n=>?_⟩
    show ∀ q∈[],_
    intro q hq;simp at hq
   refine⟨_,_,rfl,.value (.map (some W.heap.size)),_,_,_,I,?_,.inl rfl,.refl _,Al.set_le (hi.fresh hf),hA,.mp (r:={ b:=W.heap.size,s:=0,w:=0,c:=0 }) Al.set_eq⟩
   unfold execOp
   simp [ho,Instr.makeMap,newObj]
   rfl
  cases he
 cases he
theorem keyP_ok{k:IntKind}{d:D}{b:Bool}{i:Int}{v:Value}(h:keyP k d=some (b,i))(hd:Den (tyOf P) I α d v):v=.int k i:=by
 unfold keyP at h
 split at h
 ·split at h
  ·rename_i hk;injection h with h;injection h with h1 h2;subst h2;subst hk;cases hd;rfl
  cases h
 ·split at h
  ·rename_i hk;injection h with h;injection h with h1 h2;subst h2;subst hk;cases hd;rfl
  cases h
 cases h
theorem elV_den{ty:Ty}{d:D}{cs:List Value}(hs:SzOk ty d)(hl:Laid (tyOf P) I α cs.length [d] fun j=>cs[j]?):Den (tyOf P) I α d (elV ty.row cs):=by
 have hlen:=hl.1 0 d rfl
 unfold SzOk at hs
 unfold elV
 cases hr:ty.row with
 | true =>
  rw [hr]at hs
  obtain⟨l,rfl,hl2⟩:=hs
  refine .agg (show l.length=_ from hlen) fun j e x h1 h2=>?_
  obtain⟨y,h3,h4,_⟩:=hl.2 0 j _ e rfl h1
  simp only [Nat.zero_mul,Nat.zero_add]at h3
  have h2':cs[j]?=some x:=by simpa using h2
  rw [h3]at h2';obtain rfl:=Option.some.inj h2'
  exact h4
 | false =>
  rw [hr]at hs
  have hc:=cells_one hs.1
  obtain⟨y,h3,h4,_⟩:=hl.2 0 0 d d rfl (by rw [hc];rfl)
  simp only [Nat.zero_mul,Nat.zero_add]at h3
  have:cs.headD undef=y:=by
   cases cs with
   | nil=>simp at h3
   | cons c cs=>simpa using h3
  simp only [Bool.false_eq_true,if_false,this]
  exact h4
theorem lookK_ok{i:Int}{k:Option D→M Re}{re:Re}:∀ {es:List (Int×D)},Ev E Γ Re (lookK i k es) re→Ev E Γ Re (k (look es i)) re
 | [],h=>h
 | (j,d)::es,h=>by
  cases h with
  | brt h hx =>
   have:=of_decide_eq_true h
   subst this
   simpa [look]using hx
  | brf h hx =>
   have hne:¬ j=i:=fun e=>absurd e.symm (of_decide_eq_false h)
   simp only [look,if_neg hne]
   exact lookK_ok hx
theorem map_at(hi:HInv P (tyOf P) w0 ms h α I W){n:Nat}{kn:Bool}{t:TypeId}{es:List (Int×D)}{r:Reg}(hB:at_ h n=.map kn t es)(hr:α n=some r):Rep P (tyOf P) I α W r (.map kn t es):=by
 obtain⟨r',h1,_,h2⟩:=hi.liv n (by rw [hB];rfl)
 rw [hr]at h1;obtain rfl:=Option.some.inj h1
 rw [hB]at h2;exact h2
theorem lk_ok(hi:HInv P (tyOf P) w0 ms h α I W){t:TypeId}{x y:Operand}{ok:Bool}{dx dy:D}{bs:List Blk}{re:Re}(ho:o.op=.lookup t x y ok)(hx:Den (tyOf P) I α dx (a.eval x))(hy:Den (tyOf P) I α dy (a.eval y))(hbs:∀ n,dx=.mp n→bs=[at_ h n])(he:Ev E Γ Re (lkP P t ok dx dy bs) re):Val P o a α I W re:=by
 unfold lkP at he
 split at he
 ·rename_i kk e n kn t' es hm
  obtain⟨kt,hu,hk⟩:=mapT_u hm
  have hB:at_ h n=.map kn t' es:=(List.cons.inj (hbs n rfl)).1.symm
  split at he
  ·rename_i b i z ty hkey hz hty
   have hvy:=keyP_ok hkey hy
   split at he
   ·rename_i htt
    subst htt
    generalize hvx:a.eval x=vx at hx
    cases hx with
    | mp hr =>
     rename_i r
     obtain⟨_,kt',et,kk',ty',l,nx,g1,g2,g3,g4,g5,g6,g7,g8⟩:=map_at hi hB hr
     rw [hu]at g1;injection g1 with g1;injection g1 with g1 g1';subst g1;subst g1'
     rw [hk]at g2;injection g2 with g2;injection g2 with g2;subst g2
     rw [hty]at g3;obtain rfl:=Option.some.inj g3
     obtain⟨zv,hzv,hzd⟩:=zeroD_ok (I:=I) (α:=α) hz
     have hlk:=run_lookQ (W:=W) (ok:=ok) (kv:=.int kk i) hu (KeyOk.plain hk) hzv (fun q hq=>by obtain⟨m,hm⟩:=(g5 q hq).1;rw [hm];rfl) rfl g4
     have hg8:=g8 i
     have two:∀ {p:D} {x:Value} {b:Bool},Den (tyOf P) I α p x→Den (tyOf P) I α (.tup [p,.k (.bool b)]) (.tuple #[x,.bool b]):=fun hp=>.tup rfl fun j d x h1 h2=>by
      match j with
      | 0=>obtain rfl:=Option.some.inj h1;obtain rfl:=Option.some.inj h2;exact hp
      | 1=>obtain rfl:=Option.some.inj h1;obtain rfl:=Option.some.inj h2;exact .k rfl
      | j+2=>simp at h1
     have key:∀ dd:Option D,(dd=look es i∨(kn=false∧∃ d0,look es i=some d0∧dd=some (eta ty d0)))→Ev E Γ Re (ok1 (lkV ok z dd)) re→Val P o a α I W re:=by
      intro dd hdd he
      have hes:∀ d0,look es i=some d0→∃ p∈es,p.2=d0:=fun d0 h0=>by
       have:∀ es:List (Int×D),look es i=some d0→∃ p∈es,p.2=d0:=fun es=>by
        induction es with
        | nil=>intro h;cases h
        | cons p es ih =>
         obtain⟨j,d⟩:=p
         intro h
         simp only [look]at h
         split at h
         ·exact⟨_,List.mem_cons_self ..,Option.some.inj h⟩
         obtain⟨p,hp,h2⟩:=ih h;exact⟨p,List.mem_cons_of_mem _ hp,h2⟩
       exact this es h0
      cases hlook:look es i with
      | none =>
       rw [hlook]at hg8 hdd
       obtain rfl:dd=none:=by
        rcases hdd with h|⟨_,d0,h,_⟩
        ·exact h
        cases h
       rcases hlk with ⟨_,hrun⟩|⟨j,q,hq,hqk,_⟩
       ·refine .ok1 (v:=if ok then .tuple #[zv,.bool false]else zv) he ?_ ?_
        ·unfold execOp
         simp only [ho,hvx,hvy,Sem.run_bind,hrun,Result.andThen_ok,Sem.run_pure]
        cases ok
        ·exact hzd
        exact two hzd
       exact absurd hqk (hg8 q (List.mem_of_getElem? hq))
      | some d0 =>
       rw [hlook]at hg8 hdd
       obtain⟨q0,hq0,hqk0,hql⟩:=hg8
       rcases hlk with ⟨hno,_⟩|⟨j,q,hq,hqk,hrun⟩
       ·exact absurd hqk0 (hno q0 hq0)
       obtain rfl:q=q0:=by
        obtain⟨j0,hj0,rfl⟩:=List.getElem_of_mem hq0
        have:=nodup_at g6 hq (List.getElem?_eq_getElem hj0) (hqk.trans hqk0.symm)
        subst this
        rw [List.getElem?_eq_getElem hj0]at hq
        exact(Option.some.inj hq).symm
       obtain⟨p,hp,rfl⟩:=hes d0 hlook
       have hden:=elV_den (P:=P) (g7 p hp).1 hql
       obtain⟨dv,hdv,hdn⟩:∃ dv,dd=some dv∧Den (tyOf P) I α dv (elV ty.row q.cs):=by
        rcases hdd with h|⟨hkn,d1,h,h2⟩
        ·exact⟨_,h,hden⟩
        obtain rfl:=Option.some.inj h
        exact⟨_,h2,eta_ok ((g7 p hp).2 hkn) hden⟩
       subst hdv
       refine .ok1 (v:=if ok then .tuple #[elV ty.row q.cs,.bool true]else elV ty.row q.cs) he ?_ ?_
       ·unfold execOp
        simp only [ho,hvx,hvy,Sem.run_bind,hrun,Result.andThen_ok,Sem.run_pure]
       cases ok
       ·exact hdn
       exact two hdn
     split at he
     ·exact key _ (.inl rfl) (lookK_ok he)
     cases he with
     | brt h hx =>
      obtain⟨d0,h0⟩:=Option.isSome_iff_exists.1 h
      refine key _ (.inr ⟨rfl,d0,h0,rfl⟩) ?_
      rw [h0]at hx;exact hx
     | brf h hx =>
      have h0:look es i=none:=by simpa using h
      exact key none (.inl h0.symm) hx
   cases he
  cases he
 cases he
theorem elV_cells{ty:Ty}{d:D}{v:Value}(hs:szB ty d=true)(hd:Den (tyOf P) I α d v):elV ty.row v.cells.toList=v∧Laid (tyOf P) I α v.cells.toList.length [d] fun j=>v.cells.toList[j]?:=by
 obtain⟨h1,h2⟩:=szB_ok hs
 obtain⟨h3,h4⟩:=hd.cells h2
 refine⟨?_,fun i x hx=>?_,fun i j x e hx he=>?_⟩
 ·unfold SzOk at h1
  unfold elV
  cases hr:ty.row with
  | true =>
   rw [hr]at h1
   obtain⟨l,rfl,_⟩:=h1
   cases hd with
   | agg=>simp [Value.cells]
  | false =>
   rw [hr]at h1
   rw [hd.cells1 (h2 d (by rw [cells_one h1.1];simp))]
   simp
 ·obtain⟨-,rfl⟩:i=0∧d=x:=by cases i<;>simp at hx ⊢;exact hx
  simp [h3]
 obtain⟨rfl,rfl⟩:i=0∧d=x:=by cases i<;>simp at hx ⊢;exact hx
 simpa using h4 j e he
theorem upd_ok(hi:HInv P (tyOf P) w0 ms h α I W){t:TypeId}{x y z:Operand}{dx dy dz:D}{bs:List Blk}{re:Re}(ho:o.op=.insert t x y z∨o.op=.mapUpdate t x y z)(hx:Den (tyOf P) I α dx (a.eval x))(hy:Den (tyOf P) I α dy (a.eval y))(hz:Den (tyOf P) I α dz (a.eval z))
 (hbs:∀ n,dx=.mp n→bs=[at_ h n]) (he:Ev E Γ Re (updP P t dx dy dz bs) re):∃ d us,re=.ok d us∧OkOp P w0 ms o a h α I W d us:=by
 unfold updP at he
 split at he
 ·rename_i kk e n kn t' es hm
  obtain⟨kt,hu,hk⟩:=mapT_u hm
  have hB:at_ h n=.map kn t' es:=(List.cons.inj (hbs n rfl)).1.symm
  split at he
  ·rename_i b i ty hkey hty
   have hvy:=keyP_ok hkey hy
   split at he
   ·rename_i hc
    obtain⟨htt,hsz⟩:=hc
    subst htt
    generalize hvx:a.eval x=vx at hx
    cases hx with
    | mp hr =>
     rename_i r
     obtain⟨hv,kt',et,kk',ty',l,nx,g1,g2,g3,g4,g5,g6,g7,g8⟩:=map_at hi hB hr
     rw [hu]at g1;injection g1 with g1;injection g1 with g1 g1';subst g1;subst g1'
     rw [hk]at g2;injection g2 with g2;injection g2 with g2;subst g2
     rw [hty]at g3;obtain rfl:=Option.some.inj g3
     obtain⟨e1,e2⟩:=elV_cells hsz hz
     have hcs:(a.eval z).cells.toList.length=ty.n:=by
      have:=e2.1 0 dz rfl
      rw [← this];exact(szB_ok hsz).1.len
     have hst:=run_storeQ (W:=W) (kv:=.int kk i) (xs:=(a.eval z).cells.toList) hu (KeyOk.plain hk) (fun q hq=>by obtain⟨m,hm⟩:=(g5 q hq).1;rw [hm];rfl) rfl g4
     rw [e1]at hst
     have key:∀ kn2:Bool,(kn2=false→kn=false∧ElOk ty dz)→OkOp P w0 ms o a h α I W .any [(n,.map kn2 t' ((i,dz)::es))]:=by
      intro kn2 hk2
      have hlt:r.b<W.heap.size:=(Array.getElem?_eq_some_iff.1 g4).1
      have fin:∀ (l2:List Qe) (nx2:Nat),(∀ q∈l2,(∃ n,q.key=.int kk n)∧q.cs.length=ty.n)→(l2.map Qe.key).Nodup→RepM (tyOf P) I α l2 ((i,dz)::es) kk→(Instr.mapUpdate t' (.map (some r.b)) (.int kk i) (a.eval z)).run P W=.ok () (ChangeMaps.setBlock W r.b (.map (l2.map (Qe.entry ty.row)).toArray nx2))→OkOp P w0 ms o a h α I W .any [(n,.map kn2 t' ((i,dz)::es))]:=by
       intro l2 nx2 q1 q2 q3 hrun
       refine⟨.skip,undef,ChangeMaps.setBlock W r.b (.map (l2.map (Qe.entry ty.row)).toArray nx2),α,I,?_,.inr ⟨rfl,rfl⟩,.refl _,.refl _,hi.reput hr hv (by rw [hB];rfl) ⟨rfl,rfl,rfl,by simp [ChangeMaps.setBlock],fun b hb hn=>?_⟩ (fun q=>?_) (fun h=>nomatch h) (fun _ h=>nomatch h) ⟨hv,kt,e,kk,ty,l2,nx2,hu,hk,hty,?_,q1,q2,fun p hp=>?_,q3⟩,.any⟩
       ·unfold execOp
        rcases ho with ho|ho<;>simp only [ho,hvx,hvy,Sem.run_bind,hrun,Result.andThen_ok,Sem.run_pure]
       ·simp only [ChangeMaps.setBlock]
        exact Array.getElem?_setIfInBounds_ne (by simpa using fun e=>hn (by simp [e]))
       ·cases hg:I r.b q with
        | none=>rfl
        | some v =>
         have:=hi.gh _ _ _ hg
         unfold World.cell? at this
         rw [g4]at this
         cases this
       ·simp [ChangeMaps.setBlock,hlt]
       rcases List.mem_cons.1 hp with rfl|hp
       ·exact⟨(szB_ok hsz).1,fun h=>(hk2 h).2⟩
       exact⟨(g7 p hp).1,fun h=>(g7 p hp).2 (hk2 h).1⟩
      rcases hst with ⟨hno,hrun⟩|⟨j,q,hq,hqk,hrun⟩
      ·refine fin _ _ (fun q hq=>?_) ?_ (fun m=>?_) hrun
       ·rcases List.mem_append.1 hq with hq|hq
        ·exact g5 q hq
        obtain rfl:=List.mem_singleton.1 hq
        exact⟨⟨i,rfl⟩,hcs⟩
       ·rw [List.map_append,List.nodup_append]
        refine⟨g6,by simp,fun a ha b hb=>?_⟩
        obtain⟨q,hq,rfl⟩:=List.mem_map.1 ha
        obtain rfl:b=.int kk i:=by simpa using hb
        exact hno q hq
       have hm:=g8 m
       simp only [look]
       by_cases him:i=m
       ·subst him
        rw [if_pos rfl]
        exact⟨_,List.mem_append.2 (.inr (List.mem_singleton.2 rfl)),rfl,e2⟩
       rw [if_neg him]
       cases hl:look es m with
       | none =>
        rw [hl]at hm
        intro q hq
        rcases List.mem_append.1 hq with hq|hq
        ·exact hm q hq
        obtain rfl:=List.mem_singleton.1 hq
        intro e';injection e' with _ e';exact him e'
       | some d =>
        rw [hl]at hm
        obtain⟨q,hq,h1,h2⟩:=hm
        exact⟨q,List.mem_append.2 (.inl hq),h1,h2⟩
      have hjl:j<l.length:=(List.getElem?_eq_some_iff.1 hq).1
      have hset:∀ p∈l.set j (⟨.int kk i,(a.eval z).cells.toList,q.born⟩:Qe),p=⟨.int kk i,(a.eval z).cells.toList,q.born⟩∨p∈l:=fun p hp=>(List.mem_or_eq_of_mem_set hp).symm
      refine fin _ _ (fun p hp=>?_) ?_ (fun m=>?_) hrun
      ·rcases hset p hp with rfl|hp
       ·exact⟨⟨i,rfl⟩,hcs⟩
       exact g5 p hp
      ·rw [List.map_set]
       have:(l.map Qe.key).set j (.int kk i)=l.map Qe.key:=by
        apply List.ext_getElem?
        intro m
        rw [List.getElem?_set]
        split
        ·rename_i hjm;subst hjm
         rw [if_pos (by simpa using hjl),List.getElem?_map,hq];simp [hqk]
        rfl
       rw [this];exact g6
      have hm:=g8 m
      simp only [look]
      by_cases him:i=m
      ·subst him
       rw [if_pos rfl]
       exact⟨_,List.mem_set hjl _,rfl,e2⟩
      rw [if_neg him]
      cases hl:look es m with
      | none =>
       rw [hl]at hm
       intro p hp
       rcases hset p hp with rfl|hp
       ·intro e';injection e' with _ e';exact him e'
       exact hm p hp
      | some d =>
       rw [hl]at hm
       obtain⟨q',hq',h1,h2⟩:=hm
       obtain⟨m',hm',rfl⟩:=List.getElem_of_mem hq'
       refine⟨l[m'],?_,h1,h2⟩
       have hne:j≠m':=by
        rintro rfl
        rw [List.getElem?_eq_getElem hm']at hq
        obtain rfl:=Option.some.inj hq
        rw [hqk]at h1;injection h1 with _ h1;exact him h1
       exact List.mem_of_getElem? (i:=m') (by rw [List.getElem?_set_ne hne,List.getElem?_eq_getElem hm'])
     split at he
     ·obtain rfl:=ev_pure he
      exact⟨_,_,rfl,key true fun h=>nomatch h⟩
     split at he
     ·rename_i hel
      obtain rfl:=ev_pure he
      exact⟨_,_,rfl,key false fun _=>⟨rfl,(elB_el hel).1⟩⟩
     cases he
   cases he
  cases he
 cases he
end
end Z
namespace Z
section
variable {P:Program}{E:LId→LSt→M Rd1}{Γ:Cn}{w0:World}{ms:Ms}{h:Heap}{α α' β:Al}{I I':Gh}{W W':World}{o:Oper}{a:Act}
theorem Args.one{x:Operand}{d:D}(h:Args P I α a [x] [d]):Den (tyOf P) I α d (a.eval x):=h.2 0 d x rfl rfl
theorem Args.two{x y:Operand}{d e:D}(h:Args P I α a [x,y] [d,e]):Den (tyOf P) I α d (a.eval x)∧Den (tyOf P) I α e (a.eval y):=⟨h.2 0 d x rfl rfl,h.2 1 e y rfl rfl⟩
theorem Args.three{x y z:Operand}{d e f:D}(h:Args P I α a [x,y,z] [d,e,f]):Den (tyOf P) I α d (a.eval x)∧Den (tyOf P) I α e (a.eval y)∧Den (tyOf P) I α f (a.eval z):=⟨h.2 0 d x rfl rfl,h.2 1 e y rfl rfl,h.2 2 f z rfl rfl⟩
theorem move_ok{x:Operand}{d:D}{re:Re}(ho:o.op=.move x∨o.op=.assign x)(hx:Den (tyOf P) I α d (a.eval x))(he:Ev E Γ Re (ok1 d) re):Val P o a α I W re:=by
 refine .ok1 he ?_ hx
 unfold execOp
 rcases ho with ho|ho<;>simp [ho]
theorem nilc_ok{x:Operand}{d:D}{re:Re}(ho:o.op=.nilCheck x)(hx:Den (tyOf P) I α d (a.eval x))(hd:(∃ n i q,d=.p n i q)∨(∃ n i q,d=.px n i q)∨∃ e q,d=.ep e q)(he:Ev E Γ Re (ok1 d) re):Val P o a α I W re:=by
 refine .ok1 he ?_ hx
 generalize hvx:a.eval x=vx at hx
 have:∃ ad,vx=.pointer (some ad):=by
  rcases hd with ⟨n,i,q,rfl⟩|⟨n,i,q,rfl⟩|⟨e,q,rfl⟩<;>cases hx<;>exact⟨_,rfl⟩
 obtain⟨ad,rfl⟩:=this
 unfold execOp
 simp [ho,hvx]
theorem mkF_ok{fn:Fn}{first cap:Array Operand}{vs:List D}{re:Re}(ho:o.op=.makeFunc fn first cap)(hv:Args P I α a (first++cap).toList vs)(he:Ev E Γ Re (ok1 (.fn fn (vs.take first.size) (vs.drop first.size))) re):Val P o a α I W re:=by
 obtain⟨h1,h2⟩:=hv
 have h1:vs.length=first.size+cap.size:=by simpa using h1
 refine .ok1 he (v:=.func fn (first.map a.eval) (cap.map a.eval)) ?_ (.fn (by simp;omega) (by simp;omega) (fun j d v e1 e2=>?_) fun j d v e1 e2=>?_)
 ·unfold execOp
  simp [ho,Instr.makeFunc]
 ·rw [Array.getElem?_map]at e2
  obtain⟨x,e3,rfl⟩:=Option.map_eq_some_iff.1 e2
  have hj:j<first.size:=(Array.getElem?_eq_some_iff.1 e3).1
  rw [List.getElem?_take,if_pos hj]at e1
  exact h2 j d x e1 (by rw [Array.getElem?_toList,Array.getElem?_append_left hj];exact e3)
 rw [Array.getElem?_map]at e2
 obtain⟨x,e3,rfl⟩:=Option.map_eq_some_iff.1 e2
 rw [List.getElem?_drop]at e1
 exact h2 (first.size+j) d x e1 (by rw [Array.getElem?_toList,Array.getElem?_append_right (by omega)];simpa using e3)
theorem planA_ok(hi:HInv P (tyOf P) w0 ms h α I W){vs:List D}{f:Nat}{re:Re}(hv:Args P I α a o.op.operands.toList vs)(hf:at_ h f=.non)(he:Ev E Γ Re (planA P o vs ((foot0 o.op vs).map (at_ h)) f) re) :
 (∃ d us,re=.ok d us∧OkOp P w0 ms o a h α I W d us)∨∃ d v,re=.pan d∧(execOp a.eval o).run P W=.halt (.panic v) W∧Den (tyOf P) I α d v:=by
 unfold planA at he
 split at he
 case h_1 x ho =>
  obtain⟨d,rfl,he⟩:=ev_p1 he
  rw [ho]at hv
  exact .inl ((move_ok (.inl ho) hv.one he).okOp hi)
 case h_2 x ho =>
  obtain⟨d,rfl,he⟩:=ev_p1 he
  rw [ho]at hv
  exact .inl ((move_ok (.inr ho) hv.one he).okOp hi)
 case h_3 x y z ho =>
  obtain⟨d,e,g,rfl,he⟩:=ev_p3 he
  rw [ho]at hv
  obtain⟨a1,a2,a3⟩:=hv.three
  exact .inl ((pick_ok ho a1 a2 a3 he).okOp hi)
 case h_4 t ho =>
  split at he
  ·rename_i z hz
   obtain⟨zv,h1,h2⟩:=zeroD_ok (I:=I) (α:=α) hz
   exact .inl (newP_ok hi hf h2 he (run_alloc ho h1))
  cases he
 case h_5 t x ho =>
  obtain⟨d,rfl,he⟩:=ev_p1 he
  rw [ho]at hv
  exact .inl (newP_ok hi hf hv.one he (run_box ho rfl))
 case h_6 t ps ho =>
  rw [ho]at hv
  exact .inl ((build_ok ho (by simpa [Op.operands]using hv) he).okOp hi)
 case h_7 t n ps ho =>
  rw [ho]at hv
  exact .inl (buildS_ok hi ho (by simpa [Op.operands]using hv) he)
 case h_8 t x ho =>
  obtain⟨d,rfl,he⟩:=ev_p1 he
  rw [ho]at hv he
  have hd:=hv.one
  split at he
  ·exact .inl (let ⟨d,h1,h2⟩:=ldep_ok (y:=.any) hi ho hd he;⟨d,[],h1,h2⟩)
  ·rename_i n i q
   generalize hvx:a.eval x=vx at hd
   cases hd with
   | p hr=>exact .inl (let ⟨d,h1,h2⟩:=ld_ok hi ho hr hvx he;⟨d,[],h1,h2⟩)
  ·rename_i n i q
   generalize hvx:a.eval x=vx at hd
   cases hd with
   | px hr=>exact .inl (let ⟨d,h1,h2⟩:=ld_ok hi ho hr hvx he;⟨d,[],h1,h2⟩)
  cases he
 case h_9 t x y ho =>
  obtain⟨d,e,rfl,he⟩:=ev_p2 he
  rw [ho]at hv he
  obtain⟨hd,hy⟩:=hv.two
  split at he
  ·generalize hvx:a.eval x=vx at hd
   cases hd with
   | p hr=>exact .inl (st_ok hi ho hr hvx hy he)
  ·generalize hvx:a.eval x=vx at hd
   cases hd with
   | px hr=>exact .inl (st_ok hi ho hr hvx hy he)
  cases he
 case h_10 x ho =>
  obtain⟨d,hd,he2⟩:=ev_p1 he
  clear he
  have he:=he2
  subst hd
  clear he2
  rw [ho]at hv
  split at he
  ·exact .inl ((nilc_ok ho hv.one (.inl ⟨_,_,_,rfl⟩) he).okOp hi)
  ·exact .inl ((nilc_ok ho hv.one (.inr (.inl ⟨_,_,_,rfl⟩)) he).okOp hi)
  ·exact .inl ((nilc_ok ho hv.one (.inr (.inr ⟨_,_,rfl⟩)) he).okOp hi)
  cases he
 case h_11 op t x y t' ho =>
  obtain⟨d,e,rfl,he⟩:=ev_p2 he
  rw [ho]at hv
  exact .inl ((binP_ok ho hv.two.1 hv.two.2 he).okOp hi)
 case h_12 op t x ho =>
  obtain⟨d,rfl,he⟩:=ev_p1 he
  rw [ho]at hv
  exact .inl ((unP_ok ho hv.one he).okOp hi)
 case h_13 s t x ho =>
  obtain⟨d,rfl,he⟩:=ev_p1 he
  rw [ho]at hv
  exact .inl ((convP_ok hi ho hv.one he).okOp hi)
 case h_14 t x ho =>
  obtain⟨d,rfl,he⟩:=ev_p1 he
  rw [ho]at hv
  exact .inl ((mkI_ok ho hv.one he).okOp hi)
 case h_15 fn fs cs ho =>
  rw [ho]at hv
  rcases ev_ite he with ⟨_,he⟩|⟨_,he⟩
  ·exact .inl ((mkF_ok ho hv he).okOp hi)
  cases he
 case h_16 t ho=>exact .inl (mkMap_ok hi ho hf he)
 case h_17 t x y ho =>
  obtain⟨d,e,rfl,he⟩:=ev_p2 he
  rw [ho]at hv
  exact .inl (mkSl_ok hi ho hf hv.two.1 hv.two.2 he)
 case h_18 t x lo hi' mx ho =>
  rw [ho]at hv he
  have hops:(Op.slice t x lo hi' mx).operands.toList=x::(lo.toList++hi'.toList++mx.toList):=by
   cases lo<;>cases hi'<;>cases mx<;>simp [Op.operands]
  rw [hops]at hv
  obtain⟨hv1,hv2⟩:=hv
  have h0:∀ d r,vs=d::r→Den (tyOf P) I α d (a.eval x):=fun d r e=>hv2 0 d x (by rw [e];rfl) rfl
  have hbs:∀ d r,vs=d::r→∀ n,(∃ i q,d=.p n i q)∨(∃ kn i q,d=.ar kn n i q)→(foot0 (.slice t x lo hi' mx) vs).map (at_ h)=[at_ h n]:=fun d r e n hn=>by
   subst e
   rcases hn with ⟨i,q,rfl⟩|⟨k,i,q,rfl⟩<;>rfl
  refine .inl (Val.okOp (re:=re) ?_ hi)
  split at he
  ·rename_i d e1 e2 e3
   cases lo<;>cases hi'<;>cases mx<;>simp at e1 e2 e3
   exact slc_ok (dl:=none) (dh:=none) (dm:=none) hi ho (h0 d [] rfl) trivial trivial trivial (hbs d [] rfl) he
  ·rename_i d b e1 e2 e3
   cases lo<;>cases hi'<;>cases mx<;>simp at e1 e2 e3
   exact slc_ok (dl:=(some b)) (dh:=none) (dm:=none) hi ho (h0 d _ rfl) (hv2 1 b _ rfl rfl) trivial trivial (hbs d _ rfl) he
  ·rename_i d b e1 e2 e3
   cases lo<;>cases hi'<;>cases mx<;>simp at e1 e2 e3
   exact slc_ok (dl:=none) (dh:=(some b)) (dm:=none) hi ho (h0 d _ rfl) trivial (hv2 1 b _ rfl rfl) trivial (hbs d _ rfl) he
  ·rename_i d b c e1 e2 e3
   cases lo<;>cases hi'<;>cases mx<;>simp at e1 e2 e3
   exact slc_ok (dl:=(some b)) (dh:=(some c)) (dm:=none) hi ho (h0 d _ rfl) (hv2 1 b _ rfl rfl) (hv2 2 c _ rfl rfl) trivial (hbs d _ rfl) he
  ·rename_i d b c e1 e2 e3
   cases lo<;>cases hi'<;>cases mx<;>simp at e1 e2 e3
   exact slc_ok (dl:=none) (dh:=(some b)) (dm:=(some c)) hi ho (h0 d _ rfl) trivial (hv2 1 b _ rfl rfl) (hv2 2 c _ rfl rfl) (hbs d _ rfl) he
  ·rename_i d b c g e1 e2 e3
   cases lo<;>cases hi'<;>cases mx<;>simp at e1 e2 e3
   exact slc_ok (dl:=(some b)) (dh:=(some c)) (dm:=(some g)) hi ho (h0 d _ rfl) (hv2 1 b _ rfl rfl) (hv2 2 c _ rfl rfl) (hv2 3 g _ rfl rfl) (hbs d _ rfl) he
  cases he
 case h_19 t x fl ho =>
  obtain⟨d,hd,he2⟩:=ev_p1 he
  clear he
  have he:=he2
  subst hd
  clear he2
  rw [ho]at hv
  split at he
  ·exact .inl ((fldA_ok ho hv.one ‹_› he).okOp hi)
  cases he
 case h_20 t x fl ho =>
  obtain⟨d,hd,he2⟩:=ev_p1 he
  clear he
  have he:=he2
  subst hd
  clear he2
  rw [ho]at hv
  split at he
  ·exact .inl ((fld_ok ho hv.one ‹_› he).okOp hi)
  cases he
 case h_21 t x i ho =>
  obtain⟨d,e,rfl,he⟩:=ev_p2 he
  rw [ho]at hv he
  exact .inl ((idxA_ok hi ho hv.two.1 hv.two.2 (by rintro n (⟨i,q,rfl⟩|⟨k,i,q,rfl⟩)<;>rfl) he).okOp hi)
 case h_22 t x i ho =>
  obtain⟨d,e,rfl,he⟩:=ev_p2 he
  rw [ho]at hv
  exact .inl ((idx_ok ho hv.two.1 hv.two.2 he).okOp hi)
 case h_23 t x y ok ho =>
  obtain⟨d,e,rfl,he⟩:=ev_p2 he
  rw [ho]at hv he
  exact .inl ((lk_ok hi ho hv.two.1 hv.two.2 (by rintro n rfl;rfl) he).okOp hi)
 case h_24 t x y z ho =>
  obtain⟨d,e,g,rfl,he⟩:=ev_p3 he
  rw [ho]at hv he
  obtain⟨a1,a2,a3⟩:=hv.three
  exact .inl (upd_ok hi (.inl ho) a1 a2 a3 (by rintro n rfl;rfl) he)
 case h_25 t x y z ho =>
  obtain⟨d,e,g,rfl,he⟩:=ev_p3 he
  rw [ho]at hv he
  obtain⟨a1,a2,a3⟩:=hv.three
  exact .inl (upd_ok hi (.inr ho) a1 a2 a3 (by rintro n rfl;rfl) he)
 case h_26 x xt t ok ho =>
  obtain⟨d,rfl,he⟩:=ev_p1 he
  rw [ho]at hv
  exact .inl ((asrt_ok ho hv.one he).okOp hi)
 case h_27 x i ho =>
  obtain⟨d,hd,he2⟩:=ev_p1 he
  clear he
  have he:=he2
  subst hd
  clear he2
  rw [ho]at hv
  split at he
  ·exact .inl ((ext_ok ho hv.one he).okOp hi)
  cases he
 case h_28 c ho =>
  rw [ho]at hv he
  obtain⟨callee,args,ats⟩:=c
  refine .inl ?_
  have hops:∀ b,callee=.builtin b→(Op.call ⟨callee,args,ats⟩).operands.toList=args.toList:=fun b hb=>by subst hb;simp [Op.operands,Call.operands]
  have a1:∀ {d:D},vs=[d]→∀ b,callee=.builtin b→∃ x,args=#[x]∧Den (tyOf P) I α d (a.eval x):=fun {d} hd b hb=>by
   rw [hops b hb,hd]at hv
   have hl:args.size=1:=by simpa using hv.1.symm
   have hl:args.toList.length=1:=by simpa using hl
   obtain⟨l⟩:=args
   match l,hl with
   | [x],_=>exact⟨x,rfl,hv.one⟩
  have a2:∀ {d e:D},vs=[d,e]→∀ b,callee=.builtin b→∃ x y,args=#[x,y]∧Den (tyOf P) I α d (a.eval x)∧Den (tyOf P) I α e (a.eval y):=fun {d e} hd b hb=>by
   rw [hops b hb,hd]at hv
   have hl:args.toList.length=2:=by simpa using hv.1.symm
   obtain⟨l⟩:=args
   match l,hl with
   | [x,y],_=>exact⟨x,y,rfl,hv.two⟩
  dsimp only at he
  split at he
  ·obtain⟨d,hd,he2⟩:=ev_p1 he
   obtain⟨x,rfl,hx⟩:=a1 hd _ rfl
   split at he2
   ·rename_i t hats
    obtain rfl:ats=#[t]:=by rw [← Array.toArray_toList (xs:=ats),hats]
    exact(len_ok ho hx he2).okOp hi
   cases he2
  ·obtain⟨d,e,hd,he2⟩:=ev_p2 he
   obtain⟨x,y,rfl,hx,hy⟩:=a2 hd _ rfl
   split at he2
   ·rename_i t t' hats
    obtain rfl:ats=#[t,t']:=by rw [← Array.toArray_toList (xs:=ats),hats]
    exact app_ok hi ho hf hx hy (by rw [hd];rfl) he2
   cases he2
  ·obtain⟨d,e,hd,he2⟩:=ev_p2 he
   obtain⟨x,y,rfl,hx,hy⟩:=a2 hd _ rfl
   split at he2
   ·rename_i t t' hats
    obtain rfl:ats=#[t,t']:=by rw [← Array.toArray_toList (xs:=ats),hats]
    exact copy_ok hi ho hx hy (by rintro kn n i len rfl;rw [hd];rfl) he2
   cases he2
  ·obtain⟨d,e,hd,he2⟩:=ev_p2 he
   obtain⟨x,y,rfl,hx,hy⟩:=a2 hd _ rfl
   exact(mm_ok (mx:=false) ho hx hy he2).okOp hi
  ·split at he
   ·rename_i d e g hd
    rw [hops _ rfl]at hv
    have hl:args.toList.length=3:=by simpa using hv.1.symm
    obtain⟨l⟩:=args
    match l,hl with
    | [x,y,z],_ =>
     obtain⟨q1,q2,q3⟩:=hv.three
     exact(mm3_ok ho q1 q2 q3 he).okOp hi
   obtain⟨d,e,hd,he2⟩:=ev_p2 he
   obtain⟨x,y,rfl,hx,hy⟩:=a2 hd _ rfl
   exact(mm_ok (mx:=true) ho hx hy he2).okOp hi
  cases he
 case h_29 x ho =>
  obtain⟨d,hd,he2⟩:=ev_p1 he
  clear he
  have he:=he2
  subst hd
  clear he2
  rw [ho]at hv
  split at he
  ·have hd:=hv.one
   generalize hvx:a.eval x=vx at hd
   cases hd with
   | ifc hd =>
    cases he
    refine .inr ⟨_,_,rfl,?_,.ifc hd⟩
    have hp:∀ t v,(Instr.panic (.iface t v)).run P W=.halt (.panic (.iface t v)) W:=fun _ _=>rfl
    unfold execOp
    simp [ho,hvx,Sem.run_bind,hp,Result.andThen]
  cases he
 case h_30=>cases he
end
end Z
namespace Z
def arN:D→List Nat
 | .ar _ n _ _=>[n]
 | .agg l=>l.flatMap nameA
 | _=>[]
def oncN:List Nat→List Nat
 | []=>[]
 | a::l=>if l.contains a then oncN l else a::oncN l
def frN:Op→List D→List Nat
 | .buildSlice ..,vs=>oncN (vs.flatMap arN)
 | .store ..,[.px _ _ _,y]=>oncN (arN y)
 | _,_=>[]
def foot(o:Op)(vs:List D):List Nat:=foot0 o vs++frN o vs
def fz1f(P:Program)(B:Nat→Blk):D→D
 | .ar kn n i len=>match B n with
  | .arr kn' e _ l=>(match tyOf P e with
   | some ty=>if kn'=false∨l.all (elB ty)=true then .sl (kn && kn') e ((l.drop i).take len) .non else .ar kn n i len
   | none=>.ar kn n i len)
  | _=>.ar kn n i len
 | d=>d
def fzA(P:Program)(B:Nat→Blk):D→D
 | .agg l=>.agg (l.map (fz1f P B))
 | d=>fz1f P B d
def fzV(P:Program)(B:Nat→Blk):Op→List D→List D
 | .buildSlice ..,vs=>vs.map (fzA P B)
 | .store ..,[x,y]=>[x,fzA P B y]
 | _,vs=>vs
def lkB(ns:List Nat)(bs:List Blk)(n:Nat):Blk:=match ns.idxOf? n with
 | some i=>bs.getD i .non
 | none=>.non
def isArr:Blk→Bool
 | .arr ..=>true
 | _=>false
def deads(ns:List Nat):List (Nat×Blk):=ns.map fun n=>(n,.dead)
noncomputable def planB(P:Program)(o:Oper)(vs:List D)(bs:List Blk)(f:Nat):M Re:=match frN o.op vs with
 | []=>planA P o vs bs f
 | n::ns=>if((n::ns).all (fun m=>m != f && !(foot0 o.op vs).contains m) && (bs.drop (foot0 o.op vs).length).all isArr)=true then
  (planA P o (fzV P (lkB (n::ns) (bs.drop (foot0 o.op vs).length)) o.op vs) (bs.take (foot0 o.op vs).length) f).bind fun re=>match re with
   | .ok d us=>.pure (.ok d (deads (n::ns)++us))
   | .pan _=>.bad 122
  else .bad 123
section
variable {P:Program}{E:LId→LSt→M Rd1}{Γ:Cn}{w0:World}{ms:Ms}{h:Heap}{α α':Al}{I I' I1:Gh}{W W':World}{o:Oper}{a:Act}
theorem at_deads:∀ {ns:List Nat}{h:Heap}{m:Nat},at_ (upd h (deads ns)) m=if m∈ns then .dead else at_ h m
 | [],h,m=>by simp [deads,upd]
 | n::ns,h,m=>by
  show at_ (upd (put h n .dead) (deads ns)) m=_
  rw [at_deads,at_put]
  by_cases h1:m∈ns
  ·simp [h1]
  by_cases h2:m=n
  ·simp [h2]
  simp [h1,h2]
open Classical in
noncomputable def Gh.frz(I:Gh)(α:Al)(ns:List Nat)(W:World):Gh:=fun b o=>if ∃ n∈ns,∃ r,α n=some r∧r.v=false∧r.b=b then W.cell? ⟨b,o,none⟩else I b o
theorem isArr_live{B:Blk}(h:isArr B=true):B.live=true:=by cases B<;>first|rfl|cases h
theorem HInv.freeze(hi:HInv P (tyOf P) w0 ms h α I W){ns:List Nat}(hns:∀ n∈ns,isArr (at_ h n)=true) :
 LeI I (I.frz α ns W)∧HInv P (tyOf P) w0 ms (upd h (deads ns)) α (I.frz α ns W) W∧∀ n∈ns,∀ r,α n=some r→r.v=false→∀ q,I.frz α ns W r.b q=W.cell? ⟨r.b,q,none⟩:=by
 have hle:LeI I (I.frz α ns W):=fun b q x hx=>by
  unfold Gh.frz
  split
  ·exact hi.gh b q x hx
  exact hx
 refine⟨hle,?_,fun n hn r hr hv q=>if_pos ⟨n,hn,r,hr,hv,rfl⟩⟩
 refine hi.step (X:=[]) ⟨rfl,rfl,rfl,Nat.le_refl _,fun _ _ _=>rfl⟩ (fun b hb=>nomatch hb) hle (fun b q hb hm hq=>?_) (.refl _) (fun n r hr=>?_) (fun b q x hx=>.inr ?_) fun n hl=>?_
 ·unfold Gh.frz
  rw [if_neg]
  ·exact hq
  rintro⟨n,hn,r,hr,hv,rfl⟩
  obtain⟨r',h1,h2,_⟩:=hi.liv n (isArr_live (hns n hn))
  rw [hr]at h1;obtain rfl:=Option.some.inj h1
  rcases h2 hv with h2|h2
  ·omega
  exact hm h2.1
 ·rw [at_deads]
  split
  ·exact fun h=>nomatch h
  exact hi.dom n r hr
 ·unfold Gh.frz at hx
  split at hx
  ·exact hx
  exact hi.gh b q x hx
 rw [at_deads]at hl ⊢
 split at hl
 ·cases hl
 rename_i hn
 rw [if_neg hn]
 refine .inl ⟨rfl,fun r hr hv=>⟨(fun h=>nomatch h),fun q hq=>?_⟩⟩
 unfold Gh.frz
 rw [if_neg]
 ·exact hq
 rintro⟨m,hm,r',hr',hv',hb⟩
 exact hi.sep n m r r' (fun e=>hn (e▸hm)) hl (isArr_live (hns m hm)) hr hr' hv hv' hb.symm
theorem fz1_gen{B:Nat→Blk}{d:D}{v:Value}(hv:HInv P (tyOf P) w0 ms h α I W)(hB:∀ n∈nameA d,B n=at_ h n)(hd:Den (tyOf P) I α d v)(hle:LeI I I1)(hall:∀ n∈nameA d,∀ r,α n=some r→r.v=false→∀ q,I1 r.b q=W.cell? ⟨r.b,q,none⟩):Den (tyOf P) I1 α (fz1f P B d) v:=by
 have hm:=hd.mono hle (.refl _)
 unfold fz1f
 split
 ·rename_i kn n i len
  split
  ·rename_i kn' e w l hn
   rw [hB n (by simp [nameA])]at hn
   split
   ·rename_i ty hty
    split
    ·rename_i hkn
     cases hd with
     | ar hr hw hc hA =>
      rename_i c rg A
      obtain⟨rg',q1,q2,q3⟩:=hv.liv n (by rw [hn];rfl)
      rw [hr]at q1;obtain rfl:=Option.some.inj q1
      rw [hn]at q3
      obtain⟨g1,g2,g3,ty',cs,tt,g4,g5,g6,g7,g8,g9,g10,g11⟩:=q3
      rw [hty]at g4;obtain rfl:=Option.some.inj g4
      have hlen:((l.drop i).take len).length=len:=by
       rw [List.length_take,List.length_drop];omega
      have hel:∀ d∈l,ElOk ty d∧∀ e∈d.cells,e.pure=true:=fun d hd=>by
       rcases hkn with hkn|hkn
       ·obtain⟨h1,h2⟩:=g10 hkn d hd
        exact⟨h1,List.all_eq_true.1 h2⟩
       obtain⟨h1,h2⟩:=elB_el (List.all_eq_true.1 hkn d hd)
       exact⟨h1,fun e he=>(h2 e he).2⟩
      have hcell:∀ k x,cs[k]?=some x→I1 rg.b k=some x:=fun k x hx=>by
       rw [hall n (by simp [nameA]) rg hr g1,cell_of_row W rg.b k cs tt (0,0) g6];exact hx
      have key:Den (tyOf P) I1 α (.sl (kn && kn') e ((l.drop i).take len) .non) (.slice A ((l.drop i).take len).length c):=by
       refine .sl (by rw [hlen];exact hc) trivial fun hne=>?_
       have hpos:0<len:=by
        rcases Nat.eq_zero_or_pos len with h0|h0
        ·rw [h0]at hne;simp at hne
        exact h0
       rw [hA hpos,g5]
       have hsz:∀ q,q<len*ty.n→∃ x,cs[i*ty.n+q]?=some x:=fun q hq=>by
        have:i*ty.n+q<cs.size:=by
         refine Nat.lt_of_lt_of_le ?_ g7.1
         rw [g3]
         have:(i+len)*ty.n≤w*ty.n:=Nat.mul_le_mul_right _ (by rw [← g2];exact hw)
         rw [Nat.add_mul]at this
         omega
        exact⟨_,Array.getElem?_eq_getElem this⟩
       refine .mem (fun q=>(cs[i*ty.n+q]?).getD undef) hty (fun d hd=>(hel d (List.mem_of_mem_drop (List.mem_of_mem_take hd))).1) (fun q hq=>?_) fun k j d e' h1 h2=>?_
       ·rw [hlen]at hq
        obtain⟨x,hx⟩:=hsz q hq
        rw [hcell _ x hx,hx];rfl
       rw [List.getElem?_take]at h1
       split at h1
       ·rw [List.getElem?_drop]at h1
        obtain⟨x,h3,h4,_⟩:=g11.2 (i+k) j d e' h1 h2
        have h3:cs[(i+k)*ty.n+j]?=some x:=h3
        have hpu:=(hel d (List.mem_of_getElem? h1)).2 e' (List.mem_of_getElem? h2)
        show Den _ _ _ e' ((cs[i*ty.n+(k*ty.n+j)]?).getD undef)
        rw [show i*ty.n+(k*ty.n+j)=(i+k)*ty.n+j by rw [Nat.add_mul];omega,h3]
        exact(h4.pure' non hpu).mono hle (.refl _)
       cases h1
      rw [hlen]at key
      exact key
    exact hm
   exact hm
  exact hm
 exact hm
theorem arN_one{d:D}(h:∀ l,d≠.agg l):arN d=nameA d:=by cases d<;>first|rfl|exact absurd rfl (h _)
theorem fzA_gen{B:Nat→Blk}{d:D}{v:Value}(hv:HInv P (tyOf P) w0 ms h α I W)(hB:∀ n∈arN d,B n=at_ h n)(hd:Den (tyOf P) I α d v)(hle:LeI I I1)(hall:∀ n∈arN d,∀ r,α n=some r→r.v=false→∀ q,I1 r.b q=W.cell? ⟨r.b,q,none⟩):Den (tyOf P) I1 α (fzA P B d) v:=by
 unfold fzA
 split
 ·rename_i l
  cases hd with
  | agg hl hd =>
   refine .agg (by simpa using hl) fun j d x h1 h2=>?_
   rw [List.getElem?_map]at h1
   obtain⟨y,h3,rfl⟩:=Option.map_eq_some_iff.1 h1
   have hmem:∀ n∈nameA y,n∈arN (.agg l):=fun n hn=>List.mem_flatMap.2 ⟨y,List.mem_of_getElem? h3,hn⟩
   exact fz1_gen hv (fun n hn=>hB n (hmem n hn)) (hd j y x h3 h2) hle fun n hn=>hall n (hmem n hn)
 rename_i hna
 rw [arN_one hna]at hB hall
 exact fz1_gen hv hB hd hle hall
theorem mem_oncN{x:Nat}:∀ {l:List Nat},x∈l→x∈oncN l
 | a::l,h=>by
  unfold oncN
  split
  ·rename_i hc
   rcases List.mem_cons.1 h with rfl|h
   ·exact mem_oncN (by simpa using hc)
   exact mem_oncN h
  rcases List.mem_cons.1 h with rfl|h
  ·exact List.mem_cons_self ..
  exact List.mem_cons_of_mem _ (mem_oncN h)
theorem lkB_at{ns:List Nat}{n:Nat}(hn:n∈ns):lkB ns (ns.map (at_ h)) n=at_ h n:=by
 unfold lkB
 cases e:ns.idxOf? n with
 | none=>rw [List.idxOf?_eq_none_iff]at e;exact absurd hn e
 | some i =>
  obtain⟨hi,h1,_⟩:=List.idxOf?_eq_some_iff.1 e
  show(ns.map (at_ h)).getD i .non=_
  rw [List.getD_eq_getElem?_getD,List.getElem?_map,List.getElem?_eq_getElem hi,h1];rfl
theorem plan_ok(hi:HInv P (tyOf P) w0 ms h α I W){vs:List D}{f:Nat}{re:Re}(hv:Args P I α a o.op.operands.toList vs)(hf:at_ h f=.non)(he:Ev E Γ Re (planB P o vs ((foot o.op vs).map (at_ h)) f) re) :
 (∃ d us,re=.ok d us∧OkOp P w0 ms o a h α I W d us)∨∃ d v,re=.pan d∧(execOp a.eval o).run P W=.halt (.panic v) W∧Den (tyOf P) I α d v:=by
 unfold planB at he
 unfold foot at he
 split at he
 ·rename_i hn
  rw [hn,List.append_nil]at he
  exact planA_ok hi hv hf he
 rename_i n ns hn
 split at he
 ·rename_i hc
  simp only [Bool.and_eq_true]at hc
  obtain⟨hc1,hc2⟩:=hc
  rw [hn,List.map_append,List.drop_left' (by simp)]at hc2
  rw [hn,List.map_append,List.drop_left' (by simp),List.take_left' (by simp)]at he
  obtain⟨re1,h1,h2⟩:=ev_bind he
  have harr:∀ m∈n::ns,isArr (at_ h m)=true:=fun m hm=>List.all_eq_true.1 hc2 _ (List.mem_map_of_mem hm)
  have hno:∀ m∈n::ns,m≠f∧m∉foot0 o.op vs:=fun m hm=>by
   have:=List.all_eq_true.1 hc1 m hm
   simpa using this
  obtain⟨hle,hi1,hall⟩:=hi.freeze harr
  have hf1:at_ (upd h (deads (n::ns))) f=.non:=by
   rw [at_deads,if_neg fun hm=>(hno f hm).1 rfl];exact hf
  have hmap:(foot0 o.op vs).map (at_ h)=(foot0 o.op vs).map (at_ (upd h (deads (n::ns)))):=List.map_congr_left fun m hm=>by
   rw [at_deads,if_neg fun h=>(hno m h).2 hm]
  have hz:∀ {d:D} {v:Value},(∀ m∈arN d,m∈n::ns)→Den (tyOf P) I α d v→Den (tyOf P) (I.frz α (n::ns) W) α (fzA P (lkB (n::ns) ((n::ns).map (at_ h))) d) v:=fun {d v} hm hd =>
   fzA_gen hi (fun m h=>lkB_at (hm m h)) hd hle fun m h=>hall m (hm m h)
  have key:∀ vs',foot0 o.op vs'=foot0 o.op vs→Args P (I.frz α (n::ns) W) α a o.op.operands.toList vs'→Ev E Γ Re (planA P o vs' ((foot0 o.op vs).map (at_ h)) f) re1→(∃ d us,re=.ok d us∧OkOp P w0 ms o a h α I W d us)∨∃ d v,re=.pan d∧(execOp a.eval o).run P W=.halt (.panic v) W∧Den (tyOf P) I α d v:=by
   intro vs' hft hv' h1
   rw [hmap,← hft]at h1
   rcases planA_ok hi1 hv' hf1 h1 with ⟨d,us,rfl,x,v,W',α',I',k1,k2,k3,k4,k5,k6⟩|⟨d,v,rfl,_⟩
   ·cases h2
    refine .inl ⟨_,_,rfl,x,v,W',α',I',k1,k2,hle.trans k3,k4,?_,k6⟩
    have:upd h (deads (n::ns)++us)=upd (upd h (deads (n::ns))) us:=List.foldl_append ..
    rw [this];exact k5
   cases h2
  revert hn h1 hv key
  cases o.op with
  | buildSlice t k ps =>
   intro hv hn h1 key
   refine key (vs.map (fzA P (lkB (n::ns) ((n::ns).map (at_ h))))) rfl ⟨by have:=hv.1;simpa using this,fun j d x g1 g2=>?_⟩ h1
   have g1:(vs.map (fzA P (lkB (n::ns) ((n::ns).map (at_ h)))))[j]?=some d:=g1
   rw [List.getElem?_map]at g1
   obtain⟨y,g3,rfl⟩:=Option.map_eq_some_iff.1 g1
   refine hz (fun m hm=>?_) (hv.2 j y x g3 g2)
   rw [← hn]
   exact mem_oncN (List.mem_flatMap.2 ⟨y,List.mem_of_getElem? g3,hm⟩)
  | store t x y =>
   intro hv hn h1 key
   have hl:vs.length=2:=hv.1
   match vs,hl,hv,hn,h1,key with
   | [.px n0 p i,e],_,hv,hn,h1,key =>
    have hn:oncN (arN e)=n::ns:=hn
    refine key [.px n0 p i,fzA P (lkB (n::ns) ((n::ns).map (at_ h))) e] rfl ⟨rfl,fun j d x' g1 g2=>?_⟩ h1
    match j,g1,g2 with
    | 0,g1,g2 =>
     obtain rfl:=Option.some.inj g1
     exact(hv.2 0 _ x' rfl g2).mono hle (.refl _)
    | 1,g1,g2 =>
     obtain rfl:=Option.some.inj g1
     refine hz (fun m hm=>?_) (hv.2 1 _ x' rfl g2)
     rw [← hn]
     exact mem_oncN hm
    | j+2,g1,g2=>simp at g1
   | [.p ..,e],_,_,hn,_,_=>cases hn
   | [.k ..,e],_,_,hn,_,_=>cases hn
   | [.v ..,e],_,_,hn,_,_=>cases hn
   | [.agg ..,e],_,_,hn,_,_=>cases hn
   | [.tup ..,e],_,_,hn,_,_=>cases hn
   | [.mem ..,e],_,_,hn,_,_=>cases hn
   | [.sl ..,e],_,_,hn,_,_=>cases hn
   | [.ep ..,e],_,_,hn,_,_=>cases hn
   | [.ar ..,e],_,_,hn,_,_=>cases hn
   | [.fn ..,e],_,_,hn,_,_=>cases hn
   | [.mp ..,e],_,_,hn,_,_=>cases hn
   | [.ifc ..,e],_,_,hn,_,_=>cases hn
   | [.y ..,e],_,_,hn,_,_=>cases hn
   | [.any,e],_,_,hn,_,_=>cases hn
  | _=>intro _ hn;cases hn
 cases he
end
end Z
namespace Z
structure S where
 ts:List D
 h:Heap
 df:List Df
inductive Ex where
 | normal|exit (id:Nat)|ret|pan (d:D)
def constD:Value→D
 | .agg cs=>if cs.all (·.oneCell')then .agg (cs.toList.map .k)else .any
 | .tuple _=>.any
 | v=>.k v
def S.opd(s:S):Operand→D
 | .tmp t=>s.ts.getD t .any
 | .const v=>constD v
 | .global _=>.any
 | .func f=>.fn (.func f) [] []
def S.put(s:S)(d:Option Tmp)(v:D):S:=match d with
 | some t=>{ s with ts:=s.ts.set t v }
 | none=>s
def S.op(s:S)(d:Option Tmp)(v:D)(us:List (Nat×Blk)):S:={ s.put d v with h:=upd s.h us }
def DfR(P:Program)(I:Gh)(α:Al):Df→Deferred→Prop
 | .mark n,d=>∃ r,α n=some r∧d={ target:=.collected r.b,args:=#[] }
 | .fn f,d=>∃ fn first cap,d={ target:=.fn fn cap,args:=first }∧Den (tyOf P) I α f (.func fn first cap)
section
variable {P:Program}{E:LId→LSt→M Rd1}{Γ:Cn}{w0:World}{ms:Ms}{h:Heap}{α α' β:Al}{I I':Gh}{W W':World}{o:Oper}{a:Act}{s s':S}
structure Inv(P:Program)(w0:World)(ms:Ms)(s:S)(α:Al)(I:Gh)(a:Act)(W:World):Prop where
 hv:HInv P (tyOf P) w0 ms s.h α I W
 tn:s.ts.length=a.tmps.size
 ts:∀ (t:Nat) d x,s.ts[t]?=some d→a.tmps[t]?=some x→Den (tyOf P) I α d x
 dn:s.df.length=a.defers.length
 df:∀ (j:Nat) f d,s.df[j]?=some f→a.defers[j]?=some d→DfR P I α f d
theorem DfR.mono{f:Df}{d:Deferred}(h:DfR P I α f d)(hI:LeI I I')(ha:LeA α α'):DfR P I' α' f d:=by
 cases f with
 | mark n=>obtain⟨r,h1,h2⟩:=h;exact⟨r,ha _ _ h1,h2⟩
 | fn f=>obtain⟨fn,first,cap,h1,h2⟩:=h;exact⟨fn,first,cap,h1,h2.mono hI ha⟩
theorem constD_ok(v:Value):Den (tyOf P) I α (constD v) v:=by
 unfold constD
 split
 ·rename_i cs
  split
  ·rename_i hall
   refine .agg (by simp) fun j d x h1 h2=>?_
   rw [List.getElem?_map]at h1
   obtain⟨y,h3,rfl⟩:=Option.map_eq_some_iff.1 h1
   have h3':cs[j]?=some y:=by simpa using h3
   rw [h2]at h3';obtain rfl:=Option.some.inj h3'
   exact .k ((Array.all_eq_true_iff_forall_mem.1 hall) _ (Array.mem_of_getElem? h2))
  exact .any
 ·exact .any
 rename_i h1 h2
 refine .k ?_
 cases v<;>first|rfl|exact absurd rfl (h1 _)|exact absurd rfl (h2 _)
theorem Inv.opd(hi:Inv P w0 ms s α I a W)(x:Operand):Den (tyOf P) I α (s.opd x) (a.eval x):=by
 cases x with
 | tmp t =>
  show Den _ _ _ (s.ts.getD t .any) (a.tmps.getD t undef)
  by_cases ht:t<s.ts.length
  ·have ht':t<a.tmps.size:=by rw [← hi.tn];exact ht
   rw [List.getD_eq_getElem?_getD,List.getElem?_eq_getElem ht,Array.getD_eq_getD_getElem?,Array.getElem?_eq_getElem ht']
   exact hi.ts t _ _ (List.getElem?_eq_getElem ht) (Array.getElem?_eq_getElem ht')
  rw [List.getD_eq_getElem?_getD,List.getElem?_eq_none (Nat.le_of_not_lt ht)]
  exact .any
 | const v=>exact constD_ok v
 | global g=>exact .any
 | func f=>exact .fn rfl rfl (fun j d v h=>by simp at h) fun j d v h=>by simp at h
theorem Inv.args(hi:Inv P w0 ms s α I a W)(xs:List Operand):Args P I α a xs (xs.map s.opd):=by
 refine⟨by simp,fun j d x h1 h2=>?_⟩
 rw [List.getElem?_map,h2]at h1
 obtain rfl:=Option.some.inj h1
 exact hi.opd x
theorem Inv.more(hi:Inv P w0 ms s α I a W)(hI:LeI I I')(ha:LeA α α')(hv:HInv P (tyOf P) w0 ms s.h α' I' W'):Inv P w0 ms s α' I' a W' :=
 ⟨hv,hi.tn,fun t d x h1 h2=>(hi.ts t d x h1 h2).mono hI ha,hi.dn,fun j f d h1 h2=>(hi.df j f d h1 h2).mono hI ha⟩
theorem Inv.op(hi:Inv P w0 ms s α I a W){d:D}{v:Value}{us:List (Nat×Blk)}(hI:LeI I I')(ha:LeA α α')(hv:HInv P (tyOf P) w0 ms (upd s.h us) α' I' W')(hd:Den (tyOf P) I' α' d v)(dst:Option Tmp):Inv P w0 ms (s.op dst d us) α' I' (a.put dst v) W':=by
 cases dst with
 | none=>exact⟨hv,hi.tn,fun t d x h1 h2=>(hi.ts t d x h1 h2).mono hI ha,hi.dn,fun j f d h1 h2=>(hi.df j f d h1 h2).mono hI ha⟩
 | some t =>
  refine⟨hv,?_,fun u e x h1 h2=>?_,hi.dn,fun j f d h1 h2=>(hi.df j f d h1 h2).mono hI ha⟩
  ·show(s.ts.set t d).length=(a.tmps.setIfInBounds t v).size
   simpa using hi.tn
  have h1':(s.ts.set t d)[u]?=some e:=h1
  have h2':(a.tmps.setIfInBounds t v)[u]?=some x:=h2
  rw [List.getElem?_set]at h1'
  by_cases htu:t=u
  ·subst htu
   rw [if_pos rfl]at h1'
   split at h1'
   ·rename_i hlt
    obtain rfl:=Option.some.inj h1'
    rw [Array.getElem?_setIfInBounds_self_of_lt (by rw [← hi.tn];exact hlt)]at h2'
    obtain rfl:=Option.some.inj h2'
    exact hd
   cases h1'
  rw [if_neg htu]at h1'
  rw [Array.getElem?_setIfInBounds_ne htu]at h2'
  exact(hi.ts u e x h1' h2').mono hI ha
theorem Inv.put(hi:Inv P w0 ms s α I a W){d:D}{v:Value}(hd:Den (tyOf P) I α d v)(dst:Option Tmp):Inv P w0 ms (s.put dst d) α I (a.put dst v) W:=by
 have:=hi.op (us:=[]) (.refl _) (.refl _) hi.hv hd dst
 have e:s.op dst d []=s.put dst d:=by cases dst<;>rfl
 rwa [e]at this
def ExR(P:Program)(I:Gh)(α:Al):Ex→Exit→Prop
 | .normal,.normal=>True
 | .exit i,.exit j=>i=j
 | .ret,.ret=>True
 | .pan d,.panic c=>∃ v,c=[{ v,recovered:=false }]∧Den (tyOf P) I α d v
 | _,_=>False
def Post(P:Program)(w0:World)(ms:Ms)(α:Al)(I:Gh)(e:Ex)(s:S)(x:Exit)(a:Act)(W:World):Prop :=
 ∃ α' I',LeA α α'∧LeI I I'∧ExR P I' α' e x∧Inv P w0 ms s α' I' a W
theorem Post.le{α0:Al}{I0:Gh}{e:Ex}{x:Exit}(h:Post P w0 ms α I e s x a W)(ha:LeA α0 α)(hI:LeI I0 I):Post P w0 ms α0 I0 e s x a W:=by
 obtain⟨α',I',h1,h2,h3⟩:=h
 exact⟨α',I',ha.trans h1,hI.trans h2,h3⟩
inductive Wn where
 | yes|no|ask (t:Nat) (b want:Bool)|bad
def wantD(s:S)(ops:Array Oper)(o:Oper):Wn:=match o.guard with
 | none=>.yes
 | some (j,want)=>match (ops[j]?).bind (·.dst)with
  | none=>.bad
  | some t=>match s.ts.getD t .any with
   | .k (.bool b)=>if b=want then .yes else .no
   | .v (.bool b)=>.ask t b want
   | .tup []=>.no
   | _=>.bad
def evOps(op:S→Oper→M (Ex×S))(ops:Array Oper):List Oper→S→M (Ex×S)
 | [],s=>.pure (.normal,s)
 | o::r,s =>
  let go (s:S):M (Ex×S):=(op s o).bind fun x=>match x with
   | (.normal,s)=>evOps op ops r s
   | x=>.pure x
  match wantD s ops o with
  | .yes=>go s
  | .no=>evOps op ops r (s.put o.dst (.tup []))
  | .ask t b true=>.br b (go (s.put (some t) (.k (.bool true)))) (evOps op ops r ((s.put (some t) (.k (.bool false))).put o.dst (.tup [])))
  | .ask t b false=>.br b (evOps op ops r ((s.put (some t) (.k (.bool true))).put o.dst (.tup []))) (go (s.put (some t) (.k (.bool false))))
  | .bad=>.bad 130
def OpSd(P:Program)(rn:Option Nat)(o:Oper)(s:S)(e:Ex)(s':S):Prop :=
 ∀ w0 ms α I a W,Inv P w0 ms s α I a W→∀ K Q,(∀ a' W',Post P w0 ms α I .normal s' .normal a' W'→e=.normal→K a' W')→(∀ x a' W',Post P w0 ms α I e s' x a' W'→e≠.normal→Q x a' W')→o.wpIn (FW rn) 0 P a W K Q
theorem known_ok{t:Nat}{b:Bool}(hi:Inv P w0 ms s α I a W)(hd:s.ts.getD t .any=.v (.bool b)):Inv P w0 ms (s.put (some t) (.k (.bool b))) α I a W∧a.tmps.getD t undef=.bool b:=by
 have ht:t<s.ts.length:=by
  by_cases h:t<s.ts.length
  ·exact h
  rw [List.getD_eq_getElem?_getD,List.getElem?_eq_none (Nat.le_of_not_lt h)]at hd;cases hd
 have ht':t<a.tmps.size:=by rw [← hi.tn];exact ht
 have hD:=hi.opd (.tmp t)
 have hD:Den (tyOf P) I α (s.ts.getD t .any) (a.tmps.getD t undef):=hD
 rw [hd]at hD
 generalize hx:a.tmps.getD t undef=x at hD
 cases hD
 have hp:=hi.put (d:=.k (.bool b)) (v:=.bool b) (.k rfl) (some t)
 have e:a.put (some t) (.bool b)=a:=by
  have:a.tmps.setIfInBounds t (.bool b)=a.tmps:=by
   apply Array.ext_getElem?
   intro u
   by_cases htu:t=u
   ·subst htu
    rw [Array.getElem?_setIfInBounds_self_of_lt ht',← hx,Array.getD_eq_getD_getElem?,Array.getElem?_eq_getElem ht'];rfl
   rw [Array.getElem?_setIfInBounds_ne htu]
  show { a with tmps:=a.tmps.setIfInBounds t (.bool b) }=a
  rw [this]
 rw [e]at hp
 exact⟨hp,rfl⟩
theorem wanted_at{ops:Array Oper}{j t:Nat}{want b:Bool}(hg:o.guard=some (j,want))(ht:(ops[j]?).bind (·.dst)=some t)(hb:a.tmps.getD t undef=.bool b):Region.wanted o (yielded ops a.tmps)=(b == want):=by
 unfold Region.wanted
 rw [hg]
 dsimp only
 unfold yielded
 rw [ht]
 have:a.tmps[t]?=some (.bool b):=by
  rw [Array.getD_eq_getD_getElem?]at hb
  cases h:a.tmps[t]? with
  | none=>rw [h]at hb;cases hb
  | some x=>rw [h]at hb;exact congrArg some hb
 simp only [Option.bind_some,this]
 cases b<;>cases want<;>rfl
theorem undef_den:Den (tyOf P) I α (.tup []) undef:=.tup rfl fun j d x h=>by simp at h
theorem wanted_un{ops:Array Oper}{j t:Nat}{want:Bool}(hg:o.guard=some (j,want))(ht:(ops[j]?).bind (·.dst)=some t)(hd:Den (tyOf P) I α (.tup []) (a.tmps.getD t undef)):Region.wanted o (yielded ops a.tmps)=false:=by
 unfold Region.wanted
 rw [hg]
 dsimp only
 unfold yielded
 rw [ht]
 simp only [Option.bind_some]
 rw [Array.getD_eq_getD_getElem?]at hd
 cases h:a.tmps[t]? with
 | none=>rfl
 | some x =>
  rw [h]at hd
  have hd:Den (tyOf P) I α (.tup []) x:=hd
  cases hd
  rfl
theorem evOps_ok{rn:Option Nat}{op:S→Oper→M (Ex×S)}{ops:Array Oper}(hop:∀ s o e s',Ev E Γ (Ex×S) (op s o) (e,s')→OpSd P rn o s e s'):∀ (l:List Oper)(s:S)(e:Ex)(s':S),Ev E Γ (Ex×S) (evOps op ops l s) (e,s') →
 ∀ w0 ms α I a W,Inv P w0 ms s α I a W→∀ Q,(∀ x a' W',Post P w0 ms α I e s' x a' W'→Q x a' W')→wpLR rn P ops Q l a W
 | [],s,e,s',he,w0,ms,α,I,a,W,hi,Q,hQ=>by
  cases he
  exact wpLR_nil (hQ _ _ _ ⟨α,I,.refl _,.refl _,trivial,hi⟩)
 | o::r,s,e,s',he,w0,ms,α,I,a,W,hi,Q,hQ=>by
  have go:∀ s,Ev E Γ (Ex×S) ((op s o).bind fun x=>match x with
   | (.normal,s)=>evOps op ops r s
   | x=>.pure x) (e,s')→Inv P w0 ms s α I a W→Region.wanted o (yielded ops a.tmps)=true→wpLR rn P ops Q (o::r) a W:=by
   intro s he hi hw
   obtain⟨⟨e1,s1⟩,h1,h2⟩:=ev_bind he
   refine wpLR_cons hw (hop s o e1 s1 h1 w0 ms α I a W hi _ _ (fun a' W' hp hn=>?_) fun x a' W' hp hn=>?_)
   ·subst hn
    obtain⟨α',I',g1,g2,_,g3⟩:=hp
    exact evOps_ok hop r s1 e s' h2 w0 ms α' I' a' W' g3 Q fun x a'' W'' hp'=>hQ x a'' W'' (hp'.le g1 g2)
   cases e1 with
   | normal=>exact absurd rfl hn
   | _=>cases h2;exact hQ x a' W' hp
  have skip:∀ s,Ev E Γ (Ex×S) (evOps op ops r (s.put o.dst (.tup []))) (e,s')→Inv P w0 ms s α I a W→Region.wanted o (yielded ops a.tmps)=false→wpLR rn P ops Q (o::r) a W:=fun s he hi hw =>
   wpLR_skip hw (evOps_ok hop r _ e s' he w0 ms α I _ W (hi.put undef_den o.dst) Q hQ)
  unfold evOps at he
  dsimp only at he
  unfold wantD at he
  cases hg:o.guard with
  | none =>
   rw [hg]at he
   exact go s he hi (by simp [Region.wanted,hg])
  | some jw =>
   obtain⟨j,want⟩:=jw
   rw [hg]at he
   dsimp only at he
   cases ht:(ops[j]?).bind (·.dst)with
   | none=>rw [ht]at he;cases he
   | some t =>
    rw [ht]at he
    dsimp only at he
    have hD:Den (tyOf P) I α (s.ts.getD t .any) (a.tmps.getD t undef):=hi.opd (.tmp t)
    cases hd:s.ts.getD t .any with
    | k v =>
     cases v with
     | bool b =>
      rw [hd]at he hD
      generalize hx:a.tmps.getD t undef=x at hD
      cases hD
      have hw:=wanted_at hg ht hx
      dsimp only at he
      by_cases hbw:b=want
      ·rw [if_pos hbw]at he
       exact go s he hi (by rw [hw,hbw];simp)
      rw [if_neg hbw]at he
      exact skip s he hi (by rw [hw];simpa using hbw)
     | _=>rw [hd]at he;cases he
    | v v =>
     cases v with
     | bool b =>
      rw [hd]at he
      obtain⟨hi',hx⟩:=known_ok hi hd
      have hw:=wanted_at hg ht hx
      dsimp only at he
      cases want with
      | true =>
       cases he with
       | brt hb he=>subst hb;exact go _ he hi' (by rw [hw];rfl)
       | brf hb he=>subst hb;exact skip _ he hi' (by rw [hw];rfl)
      | false =>
       cases he with
       | brt hb he=>subst hb;exact skip _ he hi' (by rw [hw];rfl)
       | brf hb he=>subst hb;exact go _ he hi' (by rw [hw];rfl)
     | _=>rw [hd]at he;cases he
    | tup l =>
     rw [hd]at he hD
     cases l with
     | nil=>exact skip s he hi (wanted_un hg ht hD)
     | cons _ _=>cases he
    | _=>rw [hd]at he;cases he
theorem plan_sd{rn:Option Nat}{e:Ex}(hnd:∀ c,o.op≠.defer c)(he:Ev E Γ (Ex×S) ((planB P o (o.op.operands.toList.map s.opd) ((foot o.op (o.op.operands.toList.map s.opd)).map (at_ s.h)) s.h.length).bind fun re=>match re with
 | .ok d us=>.pure (.normal,s.op o.dst d us)
 | .pan d=>.pure (.pan d,s)) (e,s')):OpSd P rn o s e s':=by
 intro w0 ms α I a W hi K Q hK hQ
 obtain⟨re,h1,h2⟩:=ev_bind he
 have hf:at_ s.h s.h.length=.non:=by simp [at_]
 refine operIn_of_wp hnd ?_
 rcases plan_ok hi.hv (hi.args _) hf h1 with ⟨d,us,rfl,x,v,W',α',I',hrun,hx,hI,ha,hv,hd⟩|⟨d,v,rfl,hrun,hd⟩
 ·cases h2
  have hin:=hi.op hI ha hv hd o.dst
  unfold Oper.wp
  rw [hrun]
  rcases hx with rfl|⟨rfl,rfl⟩
  ·exact hK _ _ ⟨α',I',ha,hI,trivial,hin⟩ rfl
  exact hK _ _ ⟨α',I',ha,hI,trivial,hin⟩ rfl
 cases h2
 unfold Oper.wp
 rw [hrun]
 exact hQ _ _ _ ⟨α,I,.refl _,.refl _,⟨v,rfl,hd⟩,hi⟩ (fun h=>nomatch h)
end
end Z
namespace Z
structure Eff where
 us:List (Nat×Blk)
 rd:List Nat
def Eff.nms(e:Eff):List Nat:=e.us.map (·.1)
def meets(l m:List Nat):Bool:=l.any fun x=>m.contains x
def preds(o:Oper):List Nat:=(o.after.toList.filter fun e=>Region.binds .any e).map (·.on)
def once:List Nat→List Nat
 | []=>[]
 | a::l=>if l.contains a then once l else a::once l
def ancL:List Oper→List (List Nat)→List (List Nat)
 | [],acc=>acc
 | o::l,acc=>ancL l (acc++[once (preds o++(preds o).flatMap fun p=>acc.getD p [])])
def backOk:Nat→List Oper→Bool
 | _,[]=>true
 | i,o::l=>(preds o).all (fun p=>decide (p<i)) && backOk (i+1) l
def rT(ops:Array Oper)(o:Oper):List Nat:=(o.op.operands.toList.filterMap fun|.tmp t=>some t|_=>none)++(match o.guard with|some (j,_)=>((ops[j]?).bind (·.dst)).toList|none=>[])
def confl(ops:Array Oper)(o o':Oper)(e e':Eff):Bool :=
 meets o.dst.toList (rT ops o'++o'.dst.toList) || meets o'.dst.toList (rT ops o) || meets e.nms (e'.rd++e'.nms) || meets e'.nms e.rd
def okPair(ops:Array Oper)(l:List Oper)(es:List Eff)(an:List (List Nat))(i j:Nat):Bool:=match l[i]?,l[j]?,es[i]?,es[j]? with
 | some o,some o',some e,some e'=>!confl ops o' o e' e || (an.getD i []).contains j
 | _,_,_,_=>false
def nmOk(an:List (List Nat))(base:Nat):Nat→List Eff→Bool
 | _,[]=>true
 | i,e::r=>(e.nms.all fun n=>decide (n<base) || (decide ((n-base) / 16=i) || (an.getD i []).contains ((n-base) / 16))) && nmOk an base (i+1) r
def okD(ops:Array Oper)(l:List Oper)(es:List Eff)(n base:Nat):Bool :=
 backOk 0 l && nmOk (ancL l []) base 0 es && (l.all fun o=>o.dst.all fun t=>decide (t<n)) && (let an:=ancL l [];(List.range l.length).all fun i=>(List.range i).all fun j=>okPair ops l es an i j)
abbrev Pl:=Oper→List D→List Blk→Nat→M Re
def evD(pl:Pl)(ft:Oper→List D→List Nat)(ops:Array Oper)(base:Nat):List Oper→Nat→S→List Eff→M (List Eff×S)
 | [],_,s,es=>.pure (es,s)
 | o::r,i,s,es =>
  let go (s:S):M (List Eff×S):=(pl o (o.op.operands.toList.map s.opd) ((ft o (o.op.operands.toList.map s.opd)).map (at_ s.h)) (base+16*i)).bind fun re=>match re with
   | .ok d us=>evD pl ft ops base r (i+1) (s.op o.dst d us) (es++[⟨us,ft o (o.op.operands.toList.map s.opd)⟩])
   | .pan _=>.bad 131
  let no (s:S):M (List Eff×S):=evD pl ft ops base r (i+1) (s.put o.dst (.tup [])) (es++[⟨[],[]⟩])
  match wantD s ops o with
  | .yes=>go s
  | .no=>no s
  | .ask t b true=>.br b (go (s.put (some t) (.k (.bool true)))) (no (s.put (some t) (.k (.bool false))))
  | .ask t b false=>.br b (no (s.put (some t) (.k (.bool true)))) (go (s.put (some t) (.k (.bool false))))
  | .bad=>.bad 132
section
variable {P:Program}{E:LId→LSt→M Rd1}{Γ:Cn}{w0:World}{ms:Ms}{h:Heap}{α α' β:Al}{I I':Gh}{W W':World}{o:Oper}{a:Act}{s s':S}
inductive Anc (all:List Oper):Nat→Nat→Prop
 | one {i j:Nat} {o:Oper} (ho:all[j]?=some o) (hp:i∈preds o):Anc all i j
 | more {i j q:Nat} {o:Oper} (ho:all[j]?=some o) (hq:q∈preds o) (h:Anc all i q):Anc all i j
theorem mem_once{x:Nat}:∀ {l:List Nat},x∈once l→x∈l
 | [],h=>h
 | a::l,h=>by
  unfold once at h
  split at h
  ·exact List.mem_cons_of_mem _ (mem_once h)
  rcases List.mem_cons.1 h with rfl|h
  ·exact List.mem_cons_self ..
  exact List.mem_cons_of_mem _ (mem_once h)
theorem ancL_ok(all:List Oper):∀ (l:List Oper)(acc:List (List Nat)),(∀ j,l[j]?=all[acc.length+j]?)→(∀ j i,i∈acc.getD j []→Anc all i j)→∀ j i,i∈(ancL l acc).getD j []→Anc all i j
 | [],acc,_,h,j,i,hi=>h j i hi
 | o::l,acc,hl,h,j,i,hi=>by
  unfold ancL at hi
  refine ancL_ok all l _ (fun k=>?_) (fun k m hm=>?_) j i hi
  ·have:=hl (k+1)
   rw [List.length_append,List.length_singleton,show acc.length+1+k=acc.length+(k+1) by omega,← this]
   simp
  by_cases hk:k<acc.length
  ·rw [List.getD_eq_getElem?_getD,List.getElem?_append_left hk,← List.getD_eq_getElem?_getD]at hm
   exact h k m hm
  rw [List.getD_eq_getElem?_getD,List.getElem?_append_right (by omega)]at hm
  have h0:k-acc.length=0:=by
   rcases Nat.eq_zero_or_pos (k-acc.length)with h0|h0
   ·exact h0
   rw [List.getElem?_eq_none (by simp;omega)]at hm;simp at hm
  rw [h0]at hm
  have hk':k=acc.length:=by omega
  subst hk'
  have ho:all[acc.length]?=some o:=by have:=hl 0;simpa using this.symm
  simp only [List.getElem?_cons_zero,Option.getD_some]at hm
  replace hm:=mem_once hm
  simp only [List.mem_append,List.mem_flatMap]at hm
  rcases hm with hm|⟨p,hp,hm⟩
  ·exact .one ho hm
  exact .more ho hp (h p m hm)
def Closed(all:List Oper)(c:Nat→Bool):Prop:=∀ j o p,all[j]?=some o→c j=true→p∈preds o→c p=true
theorem Closed.anc{all:List Oper}{c:Nat→Bool}(h:Closed all c){i j:Nat}(ha:Anc all i j):c j=true→c i=true:=by
 induction ha with
 | one ho hp=>exact fun hc=>h _ _ _ ho hc hp
 | more ho hq _ ih=>exact fun hc=>ih (h _ _ _ ho hc hq)
theorem mem_preds{o:Oper}{p:Nat}:p∈preds o↔∃ e∈o.after,Region.binds .any e=true∧e.on=p:=by
 simp [preds,and_assoc]
theorem meets_no{l m:List Nat}(h:meets l m=false):∀ x∈l,x∉m:=fun x hx hm=>by
 have:meets l m=true:=List.any_eq_true.2 ⟨x,hx,by simpa using hm⟩
 rw [h]at this
 cases this
theorem backOk_get:∀ {l:List Oper}{i:Nat},backOk i l=true→∀ {j:Nat}{o:Oper}{p:Nat},l[j]?=some o→p∈preds o→p<i+j
 | [],_,_,_,_,_,h,_=>by simp at h
 | o0::l,i,h,j,o,p,hj,hp=>by
  simp only [backOk,Bool.and_eq_true]at h
  cases j with
  | zero =>
   obtain rfl:o0=o:=by simpa using hj
   have:=List.all_eq_true.1 h.1 p hp
   simpa using this
  | succ j =>
   have:=backOk_get (j:=j) h.2 (by simpa using hj) hp
   omega
def RefS(s s1:S):Prop:=s1=s∨∃ t b,s.ts.getD t .any=.v (.bool b)∧s1=s.put (some t) (.k (.bool b))
def WtS(ops:Array Oper)(s:S)(o:Oper)(w:Bool):Prop:=match o.guard with
 | none=>w=true
 | some (j,want)=>∃ t,(ops[j]?).bind (·.dst)=some t∧((∃ b,(s.ts.getD t .any=.k (.bool b)∨s.ts.getD t .any=.v (.bool b))∧w=(b == want))∨(s.ts.getD t .any=.tup []∧w=false))
inductive St1 (E:LId→LSt→M Rd1) (Γ:Cn) (pl:Pl) (ft:Oper→List D→List Nat) (ops:Array Oper) (f:Nat) (o:Oper) (s s2:S) (e:Eff):Prop where
 | did {s1:S} {d:D} (hr:RefS s s1) (hw:WtS ops s o true) (he:Ev E Γ Re (pl o (o.op.operands.toList.map s1.opd) ((ft o (o.op.operands.toList.map s1.opd)).map (at_ s1.h)) f) (.ok d e.us)) (hrd:e.rd=ft o (o.op.operands.toList.map s1.opd)) (h2:s2=s1.op o.dst d e.us)
 | skip {s1:S} (hr:RefS s s1) (hw:WtS ops s o false) (hu:e.us=[]) (h2:s2=s1.put o.dst (.tup []))
def TrP(E:LId→LSt→M Rd1)(Γ:Cn)(pl:Pl)(ft:Oper→List D→List Nat)(ops:Array Oper)(base:Nat)(l:List Oper)(i:Nat)(s:S)(es es':List Eff)(s':S):Prop :=
 ∃ (ss:Nat→S) (ef:List Eff),ef.length=l.length∧es'=es++ef∧ss 0=s∧ss l.length=s'∧∀ (j:Nat) o e,l[j]?=some o→ef[j]?=some e→St1 E Γ pl ft ops (base+16*(i+j)) o (ss j) (ss (j+1)) e
theorem evD_tr{pl:Pl}{ft:Oper→List D→List Nat}{ops:Array Oper}{base:Nat}:∀ (l:List Oper)(i:Nat)(s:S)(es:List Eff)(es':List Eff)(s':S),Ev E Γ (List Eff×S) (evD pl ft ops base l i s es) (es',s')→TrP E Γ pl ft ops base l i s es es' s'
 | [],i,s,es,es',s',he=>by
  cases he
  exact⟨fun _=>s,[],rfl,by simp,rfl,rfl,fun j o e h=>by simp at h⟩
 | o::r,i,s,es,es',s',he=>by
  have next:∀ {s2:S} {e:Eff},St1 E Γ pl ft ops (base+16*i) o s s2 e→Ev E Γ (List Eff×S) (evD pl ft ops base r (i+1) s2 (es++[e])) (es',s')→TrP E Γ pl ft ops base (o::r) i s es es' s':=by
   intro s2 e hst he
   obtain⟨ss,ef,h1,h2,h3,h4,h5⟩:=evD_tr r (i+1) s2 _ es' s' he
   refine⟨fun j=>match j with|0=>s|j+1=>ss j,e::ef,by simp [h1],by simp [h2],rfl,h4,fun j o2 e2 ho he2=>?_⟩
   cases j with
   | zero =>
    obtain rfl:o=o2:=by simpa using ho
    obtain rfl:e=e2:=by simpa using he2
    show St1 E Γ pl ft ops (base+16*(i+0)) o s (ss 0) e
    rw [h3];exact hst
   | succ j =>
    have:=h5 j o2 e2 (by simpa using ho) (by simpa using he2)
    rwa [show i+1+j=i+(j+1) by omega]at this
  have go:∀ s1,RefS s s1→WtS ops s o true→Ev E Γ (List Eff×S) ((pl o (o.op.operands.toList.map s1.opd) ((ft o (o.op.operands.toList.map s1.opd)).map (at_ s1.h)) (base+16*i)).bind fun re=>match re with
   | .ok d us=>evD pl ft ops base r (i+1) (s1.op o.dst d us) (es++[⟨us,ft o (o.op.operands.toList.map s1.opd)⟩])
   | .pan _=>.bad 131) (es',s')→TrP E Γ pl ft ops base (o::r) i s es es' s':=fun s1 hr hw he=>by
   obtain⟨re,h1,h2⟩:=ev_bind he
   cases re with
   | ok d us=>exact next (e:=⟨us,ft o (o.op.operands.toList.map s1.opd)⟩) (.did hr hw h1 rfl rfl) h2
   | pan d=>cases h2
  have no:∀ s1,RefS s s1→WtS ops s o false→Ev E Γ (List Eff×S) (evD pl ft ops base r (i+1) (s1.put o.dst (.tup [])) (es++[⟨[],[]⟩])) (es',s')→TrP E Γ pl ft ops base (o::r) i s es es' s':=fun s1 hr hw he=>next (.skip hr hw rfl rfl) he
  unfold evD at he
  dsimp only at he
  unfold wantD at he
  cases hg:o.guard with
  | none =>
   rw [hg]at he
   exact go s (.inl rfl) (by simp [WtS,hg]) he
  | some jw =>
   obtain⟨j,want⟩:=jw
   rw [hg]at he
   dsimp only at he
   cases ht:(ops[j]?).bind (·.dst)with
   | none=>rw [ht]at he;cases he
   | some t =>
    rw [ht]at he
    dsimp only at he
    cases hd:s.ts.getD t .any with
    | k v =>
     cases v with
     | bool b =>
      rw [hd]at he
      dsimp only at he
      have hw:WtS ops s o (b == want):=by simp only [WtS,hg];exact⟨t,ht,.inl ⟨b,.inl hd,rfl⟩⟩
      by_cases hbw:b=want
      ·rw [if_pos hbw]at he
       exact go s (.inl rfl) (by simpa [hbw]using hw) he
      rw [if_neg hbw]at he
      have hf:(b == want)=false:=by simpa using hbw
      rw [hf]at hw
      exact no s (.inl rfl) hw he
     | _=>rw [hd]at he;cases he
    | v v =>
     cases v with
     | bool b =>
      rw [hd]at he
      dsimp only at he
      have hw:WtS ops s o (b == want):=by simp only [WtS,hg];exact⟨t,ht,.inl ⟨b,.inr hd,rfl⟩⟩
      cases want with
      | true =>
       cases he with
       | brt hb he=>subst hb;exact go _ (.inr ⟨t,true,hd,rfl⟩) hw he
       | brf hb he=>subst hb;exact no _ (.inr ⟨t,false,hd,rfl⟩) hw he
      | false =>
       cases he with
       | brt hb he=>subst hb;exact no _ (.inr ⟨t,true,hd,rfl⟩) hw he
       | brf hb he=>subst hb;exact go _ (.inr ⟨t,false,hd,rfl⟩) hw he
     | _=>rw [hd]at he;cases he
    | tup l =>
     rw [hd]at he
     cases l with
     | nil=>exact no s (.inl rfl) (by simp only [WtS,hg];exact⟨t,ht,.inr ⟨hd,trivial⟩⟩) he
     | cons _ _=>cases he
    | _=>rw [hd]at he;cases he
end
end Z
namespace Z
section
variable {P:Program}{E:LId→LSt→M Rd1}{Γ:Cn}{w0:World}{ms:Ms}{h h':Heap}{α α' β:Al}{I I':Gh}{W W':World}{o:Oper}{a:Act}{s s':S}
theorem HInv.congr(hi:HInv P (tyOf P) w0 ms h α I W)(he:∀ n,at_ h' n=at_ h n):HInv P (tyOf P) w0 ms h' α I W :=
 ⟨hi.old,fun n r hr=>by rw [he];exact hi.dom n r hr,fun n hl=>by rw [he]at hl ⊢;exact hi.liv n hl,fun n m r r' hnm h1 h2=>by rw [he]at h1 h2;exact hi.sep n m r r' hnm h1 h2,hi.gh,hi.g0⟩
theorem at_upd_no:∀ {us:List (Nat×Blk)}{h:Heap}{n:Nat},n∉us.map (·.1)→at_ (upd h us) n=at_ h n
 | [],h,n,_=>rfl
 | (m,b)::us,h,n,hn=>by
  simp only [List.map_cons,List.mem_cons,not_or]at hn
  show at_ (upd (put h m b) us) n=_
  rw [at_upd_no hn.2,at_put,if_neg hn.1]
theorem at_upd_in:∀ {us:List (Nat×Blk)}{h h':Heap}{n:Nat},n∈us.map (·.1)→at_ (upd h us) n=at_ (upd h' us) n
 | (m,b)::us,h,h',n,hn=>by
  show at_ (upd (put h m b) us) n=at_ (upd (put h' m b) us) n
  by_cases h2:n∈us.map (·.1)
  ·exact at_upd_in h2
  rw [at_upd_no h2,at_upd_no h2,at_put,at_put]
  have:n=m:=by simpa [h2]using hn
  rw [if_pos this,if_pos this]
 | [],_,_,_,hn=>by simp at hn
def hc(c:Nat→Bool):Nat→List Eff→Heap→Heap
 | _,[],h=>h
 | i,e::r,h=>hc c (i+1) r (if c i then upd h e.us else h)
theorem hc_agree{c c':Nat→Bool}{n:Nat}:∀ {es:List Eff}{k:Nat}{h h':Heap},(∀ (j:Nat) e,es[j]?=some e→n∈e.nms→c (k+j)=c' (k+j))→at_ h n=at_ h' n→at_ (hc c k es h) n=at_ (hc c' k es h') n
 | [],k,h,h',_,he=>he
 | e::es,k,h,h',hc',he=>by
  unfold hc
  refine hc_agree (fun j e2 h1 h2=>by have:=hc' (j+1) e2 (by simpa using h1) h2;rwa [show k+(j+1)=k+1+j by omega]at this) ?_
  by_cases hn:n∈e.nms
  ·have:=hc' 0 e rfl hn
   rw [Nat.add_zero]at this
   rw [this]
   split
   ·exact at_upd_in hn
   exact he
  have h1:∀ (b:Bool) (h:Heap),at_ (if b then upd h e.us else h) n=at_ h n:=fun b h=>by
   split
   ·exact at_upd_no hn
   rfl
  rw [h1,h1];exact he
theorem hc_last{c:Nat→Bool}{n:Nat}{h2:Heap}:∀ {es:List Eff}{k i:Nat}{e:Eff}{h:Heap},es[i]?=some e→n∈e.nms→c (k+i)=true→(∀ (j:Nat) e',i<j→es[j]?=some e'→n∈e'.nms→c (k+j)=false)→at_ (hc c k es h) n=at_ (upd h2 e.us) n
 | [],k,i,e,h,hi,_,_,_=>by simp at hi
 | e0::es,k,0,e,h,hi,hn,hci,hl=>by
  obtain rfl:e0=e:=by simpa using hi
  unfold hc
  rw [Nat.add_zero]at hci
  rw [if_pos hci]
  have:at_ (hc c (k+1) es (upd h e0.us)) n=at_ (hc (fun _=>false) (k+1) es (upd h2 e0.us)) n:=hc_agree (fun j e2 h1 h3=>by
   have:=hl (j+1) e2 (by omega) (by simpa using h1) h3
   rwa [show k+(j+1)=k+1+j by omega]at this) (at_upd_in hn)
  rw [this]
  have hno:∀ (es:List Eff) (k:Nat) (h:Heap),hc (fun _=>false) k es h=h:=fun es=>by
   induction es with
   | nil=>intro k h;rfl
   | cons e es ih=>intro k h;unfold hc;exact ih _ _
  rw [hno]
 | e0::es,k,i+1,e,h,hi,hn,hci,hl=>by
  unfold hc
  exact hc_last (by simpa using hi) hn (by rwa [show k+1+i=k+(i+1) by omega]) fun j e' hj h1 h3=>by
   have:=hl (j+1) e' (by omega) (by simpa using h1) h3
   rwa [show k+(j+1)=k+1+j by omega]at this
theorem hc_take:∀ {es:List Eff}{k j:Nat}{h:Heap},hc (fun m=>decide (m<k+j)) k es h=(es.take j).foldl (fun h e=>upd h e.us) h
 | [],k,j,h=>by simp [hc]
 | e::es,k,0,h=>by
  have hno:∀ (es:List Eff) (i:Nat) (h:Heap),k≤i→hc (fun m=>decide (m<k+0)) i es h=h:=fun es=>by
   induction es with
   | nil=>intro i h _;rfl
   | cons e es ih=>intro i h hi;unfold hc;rw [if_neg (by simp;omega)];exact ih _ _ (by omega)
  rw [hno _ _ _ (Nat.le_refl _)];simp
 | e::es,k,j+1,h=>by
  unfold hc
  rw [if_pos (by simp)]
  have:=hc_take (es:=es) (k:=k+1) (j:=j) (h:=upd h e.us)
  rw [show k+(j+1)=k+1+j by omega,this]
  simp
def PlX(P:Program)(E:LId→LSt→M Rd1)(Γ:Cn)(pl:Pl)(ft:Oper→List D→List Nat)(o:Oper)(X:(Act→World→Prop)→Act→World→Prop):Prop:=∀ (vs:List D) (f:Nat) (d:D) (us:List (Nat×Blk)) (h:Heap),Ev E Γ Re (pl o vs ((ft o vs).map (at_ h)) f) (.ok d us) →
 ∀ (w0:World) (ms:Ms) (α:Al) (I:Gh) (a:Act) (W:World),HInv P (tyOf P) w0 ms h α I W→Args P I α a o.op.operands.toList vs→(∀ j,j<16→at_ h (f+j)=.non)→∀ (K:Act→World→Prop),
  (∀ α' I' v W',LeA α α'→LeI I I'→HInv P (tyOf P) w0 ms (upd h us) α' I' W'→Den (tyOf P) I' α' d v→K (a.put o.dst v) W')→X K a W
def PlS1(P:Program)(E:LId→LSt→M Rd1)(Γ:Cn)(rn:Option Nat)(pl:Pl)(ft:Oper→List D→List Nat)(o:Oper):Prop:=∀ Q,PlX P E Γ pl ft o fun K a W=>o.wpIn (FW rn) 0 P a W K Q
def PlS(P:Program)(E:LId→LSt→M Rd1)(Γ:Cn)(rn:Option Nat)(pl:Pl)(ft:Oper→List D→List Nat):Prop:=∀ o,PlS1 P E Γ rn pl ft o
theorem put_h(s:S)(d:Option Tmp)(v:D):(s.put d v).h=s.h:=by cases d<;>rfl
theorem RefS.hp{s s1:S}(hr:RefS s s1):s1.h=s.h:=by
 rcases hr with rfl|⟨t,b,_,rfl⟩
 ·rfl
 exact put_h ..
theorem put_ts(s:S)(d:Option Tmp)(v:D)(t:Nat):(s.put d v).ts.getD t .any=if d=some t∧t<s.ts.length then v else s.ts.getD t .any:=by
 cases d with
 | none=>simp [S.put]
 | some u =>
  simp only [S.put,List.getD_eq_getElem?_getD,List.getElem?_set]
  by_cases hu:u=t
  ·subst hu
   by_cases hl:u<s.ts.length
   ·simp [hl]
   simp [hl,List.getElem?_eq_none (Nat.le_of_not_lt hl)]
  simp [hu]
theorem put_tl(s:S)(d:Option Tmp)(v:D):(s.put d v).ts.length=s.ts.length:=by cases d<;>simp [S.put]
theorem RefS.ts{s s1:S}(hr:RefS s s1){t:Nat}{x:Value}(hd:Den (tyOf P) I α (s.ts.getD t .any) x):Den (tyOf P) I α (s1.ts.getD t .any) x:=by
 rcases hr with rfl|⟨u,b,h1,rfl⟩
 ·exact hd
 rw [put_ts]
 split
 ·rename_i hc
  obtain rfl:=Option.some.inj hc.1
  rw [h1]at hd
  cases hd
  exact .k rfl
 exact hd
theorem RefS.tl{s s1:S}(hr:RefS s s1):s1.ts.length=s.ts.length:=by
 rcases hr with rfl|⟨u,b,h1,rfl⟩
 ·rfl
 exact put_tl ..
theorem RefS.df{s s1:S}(hr:RefS s s1):s1.df=s.df:=by
 rcases hr with rfl|⟨u,b,h1,rfl⟩<;>rfl
theorem St1.facts{pl:Pl}{ft:Oper→List D→List Nat}{ops:Array Oper}{f:Nat}{s s2:S}{e:Eff}(hs:St1 E Γ pl ft ops f o s s2 e):s2.h=upd s.h e.us∧s2.ts.length=s.ts.length∧s2.df=s.df∧∀ t,o.dst≠some t→∀ {I α x},Den (tyOf P) I α (s.ts.getD t .any) x→Den (tyOf P) I α (s2.ts.getD t .any) x:=by
 cases hs with
 | did hr hw he hrd h2 =>
  rename_i s1 d
  subst h2
  refine⟨by show upd s1.h e.us=_;rw [hr.hp],(put_tl s1 o.dst d).trans hr.tl,?_,fun t ht I α x hd=>?_⟩
  ·show(s1.put o.dst d).df=_
   rw [← hr.df];cases o.dst<;>rfl
  show Den _ _ _ ((s1.put o.dst d).ts.getD t .any) x
  rw [put_ts,if_neg (by rintro⟨h1,_⟩;exact ht h1)]
  exact hr.ts hd
 | skip hr hw hu h2 =>
  rename_i s1
  subst h2
  refine⟨by rw [put_h,hr.hp,hu];rfl,(put_tl s1 o.dst _).trans hr.tl,?_,fun t ht I α x hd=>?_⟩
  ·rw [← hr.df];cases o.dst<;>rfl
  rw [put_ts,if_neg (by rintro⟨h1,_⟩;exact ht h1)]
  exact hr.ts hd
end
end Z
namespace Z
section
variable {P:Program}{E:LId→LSt→M Rd1}{Γ:Cn}{w0:World}{ms:Ms}{h:Heap}{α α' β:Al}{I I':Gh}{W W':World}{o:Oper}{a a0:Act}{s s':S}
theorem wpAnyIn_inv{F:Fence}{m:Nat}{P:Program}{ops:Array Oper}{md:Region.Mode}{Q:Exit→Act→World→Prop}(I:Array Bool→Act→World→Prop)
 (hstep:∀ listed a w i,listed.size=ops.size→I listed a w→i∈Region.ready md ops listed→wpOpIn F m P ops Q i (fun a' w'=>I (listed.setIfInBounds i true) a' w') a w)
 (hend:∀ listed a w,listed.size=ops.size→I listed a w→Region.ready md ops listed=[]→Q .normal a w) :
 ∀ fuel listed a w,listed.size=ops.size→(listed.toList.filter (! ·)).length≤fuel→I listed a w→wpAnyIn F m P md ops Q fuel listed a w:=by
 intro fuel
 induction fuel with
 | zero =>
  intro listed a w hs hc hI
  have hr:Region.ready md ops listed=[]:=by
   rw [Region.ready,List.filter_eq_nil_iff]
   intro i hi
   have hi':i<listed.size:=by rw [hs];simpa using hi
   have:listed[i]=true:=by
    cases hb:listed[i]with
    | true=>rfl
    | false =>
     exfalso
     have hm:false∈listed.toList.filter (! ·):=by
      rw [List.mem_filter]
      exact⟨by rw [← hb];exact Array.getElem_mem_toList hi',rfl⟩
     have:=List.length_pos_of_mem hm
     omega
   simp [Array.getD,hi',this]
  exact⟨hr,hend _ _ _ hs hI hr⟩
 | succ fuel ih =>
  intro listed a w hs hc hI
  refine⟨fun h0=>hend _ _ _ hs hI h0,fun i hi=>wpOpIn_mono (fun a' w' h'=>?_) (hstep listed a w i hs hI hi)⟩
  refine ih _ _ _ (by simpa using hs) ?_ h'
  have hi1:i<ops.size∧listed.getD i true=false:=by
   rw [Region.ready,List.mem_filter]at hi
   exact⟨by simpa using hi.1,by have:=hi.2;simp only [Bool.and_eq_true,Bool.not_eq_true']at this;exact this.1⟩
  have hlt:i<listed.toList.length:=by simp [hs,hi1.1]
  have hf:listed.toList[i]=false:=by
   have h2:=hi1.2
   simp only [Array.getD,show i<listed.size by omega,dif_pos]at h2
   simpa using h2
  have:=count_set listed.toList i hlt hf
  rw [Array.toList_setIfInBounds]
  omega
def setC(c:Nat→Bool)(i:Nat):Nat→Bool:=fun j=>if j=i then true else c j
theorem setC_ne{c:Nat→Bool}{i j:Nat}(h:j≠i):setC c i j=c j:=if_neg h
theorem setC_eq{c:Nat→Bool}{i:Nat}:setC c i i=true:=if_pos rfl
structure Run(E:LId→LSt→M Rd1)(Γ:Cn)(pl:Pl)(ft:Oper→List D→List Nat)(ops:Array Oper)(base:Nat)(l:List Oper)(es:List Eff)(ss:Nat→S):Prop where
 len:es.length=l.length
 st:∀ (j:Nat) o e,l[j]?=some o→es[j]?=some e→St1 E Γ pl ft ops (base+16*j) o (ss j) (ss (j+1)) e
section
variable {pl:Pl}{ft:Oper→List D→List Nat}{ops:Array Oper}{base:Nat}{l:List Oper}{es:List Eff}{ss:Nat→S}{c:Nat→Bool}
theorem Run.at(hr:Run E Γ pl ft ops base l es ss){j:Nat}(hj:j<l.length):∃ o e,l[j]?=some o∧es[j]?=some e∧St1 E Γ pl ft ops (base+16*j) o (ss j) (ss (j+1)) e :=
 ⟨l[j],es[j]'(by rw [hr.len];exact hj),List.getElem?_eq_getElem hj,List.getElem?_eq_getElem _,hr.st j _ _ (List.getElem?_eq_getElem hj) (List.getElem?_eq_getElem _)⟩
theorem Run.hp(P:Program)(hr:Run E Γ pl ft ops base l es ss):∀ m,m≤l.length→(ss m).h=hc (fun j=>decide (j<m)) 0 es (ss 0).h∧(ss m).ts.length=(ss 0).ts.length∧(ss m).df=(ss 0).df:=by
 have key:∀ m,m≤l.length→(ss m).h=(es.take m).foldl (fun h e=>upd h e.us) (ss 0).h∧(ss m).ts.length=(ss 0).ts.length∧(ss m).df=(ss 0).df:=by
  intro m
  induction m with
  | zero=>exact fun _=>⟨rfl,rfl,rfl⟩
  | succ m ih =>
   intro hm
   obtain⟨h1,h2,h3⟩:=ih (by omega)
   obtain⟨o,e,g1,g2,g3⟩:=hr.at (j:=m) (by omega)
   obtain⟨f1,f2,f3,_⟩:=g3.facts (P:=P)
   refine⟨?_,f2.trans h2,f3.trans h3⟩
   rw [f1,h1,List.take_add_one,g2]
   simp
 intro m hm
 obtain⟨h1,h2,h3⟩:=key m hm
 have:=hc_take (es:=es) (k:=0) (j:=m) (h:=(ss 0).h)
 rw [Nat.zero_add]at this
 exact⟨by rw [h1,this],h2,h3⟩
theorem Run.tr(hr:Run E Γ pl ft ops base l es ss){t:Nat}{x:Value}{k:Nat}:∀ m,k≤m→m≤l.length→(∀ (j:Nat) o,k≤j→j<m→l[j]?=some o→o.dst≠some t)→Den (tyOf P) I α ((ss k).ts.getD t .any) x→Den (tyOf P) I α ((ss m).ts.getD t .any) x:=by
 intro m
 induction m with
 | zero =>
  intro h1 _ _ hd
  obtain rfl:k=0:=(by omega)
  exact hd
 | succ m ih =>
  intro h1 h2 h3 hd
  by_cases hk:k=m+1
  ·subst hk;exact hd
  obtain⟨o,e,g1,g2,g3⟩:=hr.at (j:=m) (by omega)
  exact g3.facts.2.2.2 t (h3 m o (by omega) (by omega) g1) (ih (by omega) (by omega) (fun j o' h4 h5=>h3 j o' h4 (by omega)) hd)
def DI(P:Program)(l:List Oper)(es:List Eff)(ss:Nat→S)(w0:World)(ms:Ms)(α:Al)(I:Gh)(a0:Act)(c:Nat→Bool)(a:Act)(W:World):Prop :=
 ∃ α' I',LeA α α'∧LeI I I'∧HInv P (tyOf P) w0 ms (hc c 0 es (ss 0).h) α' I' W∧a.tmps.size=a0.tmps.size∧a.defers=a0.defers ∧
  ∀ (t m:Nat) x,m≤l.length→(∀ (j:Nat) o,l[j]?=some o→o.dst=some t→(c j=true↔j<m))→a.tmps[t]?=some x→Den (tyOf P) I' α' ((ss m).ts.getD t .any) x
theorem DI.next(hr:Run E Γ pl ft ops base l es ss){i:Nat}(ho:l[i]?=some o){v:Value}
 (hlater:∀ (j:Nat) o' t,i<j→l[j]?=some o'→c j=true→o.dst=some t→o'.dst≠some t)
 (hsz:a.tmps.size=a0.tmps.size) (hdf:a.defers=a0.defers) (hI:LeI I I') (ha:LeA α α')
 (ht:∀ (t m:Nat) x,m≤l.length→(∀ (j:Nat) o,l[j]?=some o→o.dst=some t→(c j=true↔j<m))→a.tmps[t]?=some x→Den (tyOf P) I' α' ((ss m).ts.getD t .any) x)
 (hv:HInv P (tyOf P) w0 ms (hc (setC c i) 0 es (ss 0).h) α' I' W) (hd:∀ t,o.dst=some t→t<a.tmps.size→Den (tyOf P) I' α' ((ss (i+1)).ts.getD t .any) v):DI P l es ss w0 ms α I a0 (setC c i) (a.put o.dst v) W:=by
 refine⟨α',I',ha,hI,hv,?_,?_,fun t m x hm hw hx=>?_⟩
 ·rw [← hsz];cases o.dst with
  | none=>rfl
  | some u=>exact Array.size_setIfInBounds
 ·rw [← hdf];cases o.dst<;>rfl
 by_cases h1:o.dst=some t
 ·have him:i<m:=(hw i o ho h1).1 setC_eq
  rw [h1]at hx
  have hx:(a.tmps.setIfInBounds t v)[t]?=some x:=hx
  have hlt:t<a.tmps.size:=by
   have:=(Array.getElem?_eq_some_iff.1 hx).1
   simpa using this
  rw [Array.getElem?_setIfInBounds_self_of_lt hlt]at hx
  obtain rfl:=Option.some.inj hx
  refine hr.tr m him hm (fun j o' h2 h3 h4 h5=>?_) (hd t h1 hlt)
  have:=(hw j o' h4 h5).2 h3
  rw [setC_ne (by omega)]at this
  exact hlater j o' t (by omega) h4 this h1 h5
 have hx':a.tmps[t]?=some x:=by
  rw [← hx]
  cases hq:o.dst with
  | none=>rfl
  | some u =>
   show _=(a.tmps.setIfInBounds u v)[t]?
   rw [Array.getElem?_setIfInBounds_ne (fun e=>h1 (by rw [hq,e]))]
 refine ht t m x hm (fun j o' h2 h3=>?_) hx'
 have hji:j≠i:=fun e=>by rw [e,ho]at h2;cases h2;exact h1 h3
 rw [← hw j o' h2 h3,setC_ne hji]
theorem ok_pair{n:Nat}(hok:okD ops l es n base=true){i j:Nat}{o o':Oper}{e e':Eff}(h1:l[i]?=some o)(h2:l[j]?=some o')(h3:es[i]?=some e)(h4:es[j]?=some e')(hlt:j<i)(hc:confl ops o' o e' e=true):Anc l j i:=by
 simp only [okD,Bool.and_eq_true]at hok
 have hi:i<l.length:=(List.getElem?_eq_some_iff.1 h1).1
 have:=List.all_eq_true.1 (List.all_eq_true.1 hok.2 i (by simpa using hi)) j (by simpa using hlt)
 simp only [okPair,h1,h2,h3,h4,hc,Bool.not_true,Bool.false_or]at this
 exact ancL_ok l l [] (by simp) (by simp) i j (by simpa using this)
theorem nm_get{an:List (List Nat)}:∀ {es:List Eff}{k:Nat},nmOk an base k es=true→∀ {j:Nat}{e:Eff}{n:Nat},es[j]?=some e→n∈e.nms→n<base∨((n-base) / 16=k+j∨(n-base) / 16∈an.getD (k+j) [])
 | [],_,_,_,_,_,hj,_=>by simp at hj
 | e0::es,k,hk,j,e,n,hj,hn=>by
  simp only [nmOk,Bool.and_eq_true]at hk
  cases j with
  | zero =>
   obtain rfl:e0=e:=by simpa using hj
   have:=List.all_eq_true.1 hk.1 n hn
   simpa using this
  | succ j =>
   have:=nm_get (es:=es) (k:=k+1) hk.2 (j:=j) (by simpa using hj) hn
   rw [show k+1+j=k+(j+1) by omega]at this
   exact this
theorem mem_rT_op{t:Nat}(h:Operand.tmp t∈o.op.operands.toList):t∈rT ops o:=by
 unfold rT
 exact List.mem_append_left _ (List.mem_filterMap.2 ⟨_,h,rfl⟩)
theorem mem_rT_gd{t j:Nat}{want:Bool}(hg:o.guard=some (j,want))(ht:(ops[j]?).bind (·.dst)=some t):t∈rT ops o:=by
 unfold rT
 refine List.mem_append_right _ ?_
 rw [hg]
 simp [ht]
theorem draw_stepX{X:(Act→World→Prop)→Act→World→Prop}{n:Nat}(hpl:PlX P E Γ pl ft o X)(hops:∀ (i:Nat) o,l[i]?=some o→ops[i]?=some o)(hr:Run E Γ pl ft ops base l es ss)(hok:okD ops l es n base=true)(hb:(ss 0).h.length≤base)(hn:(ss 0).ts.length=a0.tmps.size)(hcl:Closed l c){i:Nat}(ho:l[i]?=some o)(hci:c i=false)(hp:∀ p∈preds o,c p=true)
 (hd:DI P l es ss w0 ms α I a0 c a W) {K:Act→World→Prop} (hK:∀ a' W',DI P l es ss w0 ms α I a0 (setC c i) a' W'→K a' W'):if Region.wanted o (yielded ops a.tmps)then X K a W else K (a.put o.dst undef) W:=by
 obtain⟨α',I',hα,hI,hv,hsz,hdf,hts⟩:=hd
 have hil:i<l.length:=(List.getElem?_eq_some_iff.1 ho).1
 obtain⟨o2,e,ho2,he,hst⟩:=hr.at hil
 rw [ho]at ho2;obtain rfl:=Option.some.inj ho2
 have hat:∀ {j:Nat} {o':Oper},l[j]?=some o'→∃ e',es[j]?=some e':=fun {j o'} hj=>by
  have hlt:j<es.length:=by rw [hr.len];exact(List.getElem?_eq_some_iff.1 hj).1
  exact⟨es[j],List.getElem?_eq_getElem hlt⟩
 have hat2:∀ {j:Nat} {e':Eff},es[j]?=some e'→∃ o',l[j]?=some o':=fun {j e'} hj=>by
  have hlt:j<l.length:=by rw [← hr.len];exact(List.getElem?_eq_some_iff.1 hj).1
  exact⟨l[j],List.getElem?_eq_getElem hlt⟩
 have hL:∀ {j:Nat} {o':Oper} {e':Eff},l[j]?=some o'→es[j]?=some e'→i<j→c j=true→confl ops o o' e e'=false:=fun {j o' e'} h1 h2 hlt hcj=>by
  cases hq:confl ops o o' e e' with
  | false=>rfl
  | true =>
   have:=hcl.anc (ok_pair hok h1 ho h2 he hlt hq) hcj
   rw [hci]at this;cases this
 have hB:∀ {j:Nat} {o':Oper} {e':Eff},l[j]?=some o'→es[j]?=some e'→j<i→c j=false→confl ops o' o e' e=false:=fun {j o' e'} h1 h2 hlt hcj=>by
  cases hq:confl ops o' o e' e with
  | false=>rfl
  | true =>
   have:=ok_pair hok ho h1 he h2 hlt hq
   exfalso
   have key:c j=true:=by
    cases this with
    | one ho3 hp3=>rw [ho]at ho3;cases ho3;exact hp _ hp3
    | more ho3 hq3 ha=>rw [ho]at ho3;cases ho3;exact hcl.anc ha (hp _ hq3)
   rw [hcj]at key;cases key
 have hmem:∀ {t:Nat},o.dst=some t→t∈o.dst.toList:=fun h=>by rw [h];simp
 have hrd:∀ t,t∈rT ops o→∀ x,a.tmps[t]?=some x→Den (tyOf P) I' α' ((ss i).ts.getD t .any) x:=fun t htr x hx=>hts t i x (by omega) (fun j o' h1 h2=>by
  obtain⟨e',h3⟩:=hat h1
  have htd:t∈o'.dst.toList:=by rw [h2];simp
  rcases Nat.lt_trichotomy j i with hlt|rfl|hgt
  ·refine⟨fun _=>hlt,fun _=>?_⟩
   cases hq:c j with
   | true=>rfl
   | false =>
    have:=hB h1 h3 hlt hq
    simp only [confl,Bool.or_eq_false_iff]at this
    exact absurd (List.mem_append_left _ htr) (meets_no this.1.1.1 t htd)
  ·simp [hci]
  refine⟨fun hq=>?_,fun h=>by omega⟩
  have:=hL h1 h3 hgt hq
  simp only [confl,Bool.or_eq_false_iff]at this
  exact absurd htr (meets_no this.1.1.2 t htd)) hx
 have hlater:∀ (j:Nat) o' t,i<j→l[j]?=some o'→c j=true→o.dst=some t→o'.dst≠some t:=fun j o' t hlt h1 hcj h2 h3=>by
  obtain⟨e',h4⟩:=hat h1
  have:=hL h1 h4 hlt hcj
  simp only [confl,Bool.or_eq_false_iff]at this
  exact meets_no this.1.1.1 t (hmem h2) (List.mem_append_right _ (by rw [h3];simp))
 have hmsk:∀ {j:Nat} {n:Nat} {e':Eff},es[j]?=some e'→n∈e'.nms→n∈e.rd++e.nms→j≠i→c j=decide (j<i):=fun {j n e'} h1 h2 h3 hji=>by
  obtain⟨o',h4⟩:=hat2 h1
  rcases Nat.lt_or_gt_of_ne hji with hlt|hgt
  ·rw [decide_eq_true hlt]
   cases hq:c j with
   | true=>rfl
   | false =>
    have:=hB h4 h1 hlt hq
    simp only [confl,Bool.or_eq_false_iff]at this
    exact absurd h3 (meets_no this.1.2 n h2)
  rw [decide_eq_false (by omega)]
  cases hq:c j with
  | false=>rfl
  | true =>
   have:=hL h4 h1 hgt hq
   simp only [confl,Bool.or_eq_false_iff]at this
   rcases List.mem_append.1 h3 with h3|h3
   ·exact absurd h3 (meets_no this.2 n h2)
   exact absurd (List.mem_append_right _ h2) (meets_no this.1.2 n h3)
 have hno:∀ {n:Nat} {h0:Heap},n∉e.nms→at_ (hc (setC c i) 0 es h0) n=at_ (hc c 0 es h0) n:=fun {n h0} hn=>hc_agree (fun j e' h1 h2=>by
  rw [Nat.zero_add]
  refine setC_ne fun hji=>?_
  rw [hji,he]at h1;cases h1;exact hn h2) rfl
 obtain⟨hsh,hsl,_⟩:=hr.hp P i (by omega)
 have hlen:(ss i).ts.length=a.tmps.size:=by rw [hsl,hn,hsz]
 have hwt:∀ w,WtS ops (ss i) o w→Region.wanted o (yielded ops a.tmps)=w:=fun w hw=>by
  unfold WtS at hw
  cases hg:o.guard with
  | none=>rw [hg]at hw;simp [Region.wanted,hg,hw]
  | some jw =>
   obtain⟨j,want⟩:=jw
   rw [hg]at hw
   obtain⟨t,h1,h2⟩:=hw
   have hden:t<(ss i).ts.length→Den (tyOf P) I' α' ((ss i).ts.getD t .any) (a.tmps.getD t undef):=fun hlt=>by
    rw [hlen]at hlt
    rw [Array.getD_eq_getD_getElem?,Array.getElem?_eq_getElem hlt]
    exact hrd t (mem_rT_gd hg h1) _ (Array.getElem?_eq_getElem hlt)
   have hin:(ss i).ts.getD t .any≠.any→t<(ss i).ts.length:=fun hne=>by
    by_cases h:t<(ss i).ts.length
    ·exact h
    rw [List.getD_eq_getElem?_getD,List.getElem?_eq_none (Nat.le_of_not_lt h)]at hne
    exact absurd rfl hne
   rcases h2 with ⟨b,h2,rfl⟩|⟨h2,rfl⟩
   ·refine wanted_at hg h1 ?_
    have:=hden (hin (by rcases h2 with h2|h2<;>rw [h2]<;>exact fun h=>nomatch h))
    generalize a.tmps.getD t undef=x at this
    rcases h2 with h2|h2
    ·rw [h2]at this;cases this;rfl
    rw [h2]at this;cases this;rfl
   refine wanted_un hg h1 (P:=P) (I:=I') (α:=α') ?_
   have:=hden (hin (by rw [h2];exact fun h=>nomatch h))
   rwa [h2]at this
 cases hst with
 | @did s1 d hrf hw hev hrde h2 =>
  rw [if_pos (hwt true hw)]
  have hft:(ft o (o.op.operands.toList.map s1.opd)).map (at_ s1.h)=(ft o (o.op.operands.toList.map s1.opd)).map (at_ (hc c 0 es (ss 0).h)):=by
   refine List.map_congr_left fun n hn=>?_
   rw [hrf.hp,hsh]
   refine hc_agree (fun j e' h3 h4=>?_) rfl
   rw [Nat.zero_add]
   by_cases hji:j=i
   ·subst hji;rw [hci];simp
   exact(hmsk h3 h4 (List.mem_append_left _ (by rw [hrde];exact hn)) hji).symm
  rw [hft]at hev
  have hok':=hok
  simp only [okD,Bool.and_eq_true]at hok'
  have hfr:∀ q,q<16→at_ (hc c 0 es (ss 0).h) (base+16*i+q)=.non:=fun q hq=>by
   have:at_ (hc c 0 es (ss 0).h) (base+16*i+q)=at_ (hc (fun m=>decide (m<0+0)) 0 es (ss 0).h) (base+16*i+q):=hc_agree (fun j e' h3 h4=>by
    rcases nm_get hok'.1.1.2 h3 h4 with h5|h5
    ·omega
    rw [show base+16*i+q-base=16*i+q by omega,show(16*i+q) / 16=i by omega]at h5
    rcases h5 with h5|h5
    ·have hji:i=j:=by omega
     rw [Nat.zero_add,← hji,hci];simp
    rw [Nat.zero_add]at h5
    have han:=ancL_ok l l [] (by simp) (by simp) j i h5
    cases hq:c (0+j)with
    | false=>simp
    | true =>
     rw [Nat.zero_add]at hq
     have:=hcl.anc han hq
     rw [hci]at this;cases this) rfl
   rw [this,hc_take]
   show at_ (ss 0).h (base+16*i+q)=.non
   simp [at_,List.getD_eq_getElem?_getD,List.getElem?_eq_none (show(ss 0).h.length≤base+16*i+q by omega)]
  refine hpl _ (base+16*i) d e.us _ hev w0 ms α' I' a W hv ⟨by simp,fun j dd x h3 h4=>?_⟩ hfr _ fun α'' I'' v W'' hα2 hI2 hv2 hd2=>?_
  ·rw [List.getElem?_map,h4]at h3
   obtain rfl:=Option.some.inj h3
   have hxm:x∈o.op.operands.toList:=List.mem_of_getElem? h4
   cases x with
   | tmp t =>
    show Den _ _ _ (s1.ts.getD t .any) (a.tmps.getD t undef)
    by_cases hlt:t<a.tmps.size
    ·rw [Array.getD_eq_getD_getElem?,Array.getElem?_eq_getElem hlt]
     exact hrf.ts (hrd t (mem_rT_op hxm) _ (Array.getElem?_eq_getElem hlt))
    rw [List.getD_eq_getElem?_getD,List.getElem?_eq_none (show s1.ts.length≤t from by
     have q:=hrf.tl
     rw [q,hlen];exact Nat.le_of_not_lt hlt)]
    exact .any
   | const v=>exact constD_ok v
   | global g=>exact .any
   | func f=>exact .fn rfl rfl (fun j d v h=>by simp at h) fun j d v h=>by simp at h
  refine hK _ _ (DI.next hr ho hlater hsz hdf (hI.trans hI2) (hα.trans hα2) (fun t m x h3 h4 h5=>(hts t m x h3 h4 h5).mono hI2 hα2) (hv2.congr fun n=>?_) fun t h3 h4=>?_)
  ·by_cases hn:n∈e.nms
   ·refine hc_last he hn (by rw [Nat.zero_add];exact setC_eq) fun j e' hj h3 h4=>?_
    rw [Nat.zero_add,setC_ne (by omega),hmsk h3 h4 (List.mem_append_right _ hn) (by omega)]
    exact decide_eq_false (by omega)
   rw [hno hn,at_upd_no hn]
  have:(ss (i+1)).ts.getD t .any=d:=by
   rw [h2]
   show(s1.put o.dst d).ts.getD t .any=d
   rw [put_ts,if_pos ⟨h3,by rw [hrf.tl,hlen];exact h4⟩]
  rw [this];exact hd2
 | @skip s1 hrf hw hu h2 =>
  rw [if_neg (by rw [hwt false hw];simp)]
  refine hK _ _ (DI.next hr ho hlater hsz hdf hI hα hts (hv.congr fun n=>hno (by simp [Eff.nms,hu])) fun t h3 h4=>?_)
  have:(ss (i+1)).ts.getD t .any=.tup []:=by
   rw [h2,put_ts,if_pos ⟨h3,by rw [hrf.tl,hlen];exact h4⟩]
  rw [this];exact undef_den
theorem draw_step{rn:Option Nat}{n:Nat}{Q:Exit→Act→World→Prop}(hpl:PlS1 P E Γ rn pl ft o)(hops:∀ (i:Nat) o,l[i]?=some o→ops[i]?=some o)(hr:Run E Γ pl ft ops base l es ss)(hok:okD ops l es n base=true)(hb:(ss 0).h.length≤base)(hn:(ss 0).ts.length=a0.tmps.size)(hcl:Closed l c){i:Nat}(ho:l[i]?=some o)(hci:c i=false)(hp:∀ p∈preds o,c p=true)
 (hd:DI P l es ss w0 ms α I a0 c a W) {K:Act→World→Prop} (hK:∀ a' W',DI P l es ss w0 ms α I a0 (setC c i) a' W'→K a' W'):wpOpIn (FW rn) 0 P ops Q i K a W:=by
 have:=draw_stepX (hpl Q) hops hr hok hb hn hcl ho hci hp hd hK
 unfold wpOpIn
 rw [hops i o ho]
 dsimp only
 split at this
 ·rename_i hw;rw [if_pos hw];exact this
 rename_i hw;rw [if_neg hw];exact⟨fun _ _=>trivial,this⟩
end
end
end Z
namespace Z
theorem stepR_scope{P:Program}{b:Frame}{a:Act}{k:List Item}{cs:List Frame}{w:World}{c:Code}:step P (lone (b.atR a (.code (.scope c)::k)) cs w)=.next (lone (b.atR a (.code c::.inScope c::k)) cs w):=step_lone_go (by simp [stepG,stepG.exec,Frame.atR])
theorem stepR_inScope{P:Program}{b:Frame}{a:Act}{k:List Item}{cs:List Frame}{w:World}{c:Code}:step P (lone (b.atR a (.inScope c::k)) cs w)=.next (lone (b.atR a k) cs w):=step_lone_go (by simp [stepG,stepG.exec,Frame.atR])
theorem wpR_scope{r:Option Nat}{P:Program}{c:Code}{Q:Exit→Act→World→Prop}{a:Act}{w:World}(h:wpR r P c (Exit.noGoto Q) a w):wpR r P (.scope c) Q a w:=by
 intro b k cs hro hb hr
 have h0:(lone (b.atR a (.code (.scope c)::k)) cs w).fenced P (FW r):=fenced_calm hb hr rfl
 obtain⟨e,a₁,w₁,hq,harr⟩:=h b (.inScope c::k) cs hro hb hr
 cases e with
 | normal=>exact⟨.normal,a₁,w₁,hq,.head h0 stepR_scope (StepsIn.trans harr (.one (fenced_calm hb hr rfl) stepR_inScope))⟩
 | exit id =>
  have hx:exitTo id (.inScope c::k)=exitTo id k:=by simp [exitTo]
  exact⟨_,a₁,w₁,hq,fun k' hk=>.head h0 stepR_scope (harr.1 k' (by rw [hx];exact hk)),fun hr' hk=>let ⟨k₁,h1,h2⟩:=harr.2 hr' (by rw [hx];exact hk);⟨k₁,h1,.head h0 stepR_scope h2⟩⟩
 | goto l=>exact hq.elim
 | ret=>exact⟨_,a₁,w₁,hq,.of_steps (.one h0 stepR_scope) harr⟩
 | panic ch=>exact⟨_,a₁,w₁,hq,.of_steps (.one h0 stepR_scope) harr⟩
 | outgrown=>exact⟨_,a₁,w₁,hq,.of_steps (.one h0 stepR_scope) harr⟩
section
variable {P:Program}{E:LId→LSt→M Rd1}{Γ:Cn}{w0:World}{ms:Ms}{h:Heap}{α α' β:Al}{I I':Gh}{W W':World}{o:Oper}{a a0:Act}{s s':S}
theorem ev_pure_eq{β:Type}{b r:β}(h:Ev E Γ β (.pure b) r):r=b:=by cases h;rfl
structure Kit where
 op:S→Oper→M (Ex×S)
 dr:Array Oper→S→M (Ex×S)
 lo:Code→S→Option (M (Ex×S))
 rg:Operand→Array Tmp→Code→Code→S→M (Ex×S)
 fuel:Nat
def evLoop(body:S→M (Ex×S)):Nat→S→M (Ex×S)
 | 0,_=>.bad 140
 | n+1,s=>(body s).bind fun x=>match x with
  | (.normal,s)=>evLoop body n s
  | x=>.pure x
def S.know(s:S)(c:Operand)(b:Bool):S:=match c with
 | .tmp t=>s.put (some t) (.k (.bool b))
 | _=>s
def outB(id:Nat)(x:Ex×S):Ex×S:=match x with
 | (.exit i,s)=>if i=id then(.normal,s)else(.exit i,s)
 | x=>x
def evC(K:Kit):Code→S→M (Ex×S)
 | .skip,s=>.pure (.normal,s)
 | .label _,s=>.pure (.normal,s)
 | .exit id,s=>.pure (.exit id,s)
 | .ret,s=>.pure (.ret,s)
 | .region _ ops false,s=>evOps K.op ops ops.toList s
 | .region _ ops true,s=>K.dr ops s
 | .seq x y,s=>(evC K x s).bind fun r=>match r with
  | (.normal,s)=>evC K y s
  | r=>.pure r
 | .cond c x y,s=>match s.opd c with
  | .k (.bool b)=>if b then evC K x s else evC K y s
  | .v (.bool b)=>.br b (evC K x (s.know c true)) (evC K y (s.know c false))
  | _=>.bad 141
 | .block id c,s=>(evC K c s).bind fun r=>.pure (outB id r)
 | .loop c,s=>match K.lo c s with
  | some m=>m
  | none=>evLoop (evC K c) K.fuel s
 | .rangeFunc g ps sg body,s=>K.rg g ps sg body s
 | .scope c,s=>evC K c s
 | .goto _,_=>.bad 142
 | .refuse _,_=>.bad 143
def AllL(G:Code→Prop):Code→Prop
 | .seq x y=>AllL G x∧AllL G y
 | .cond _ x y=>AllL G x∧AllL G y
 | .block _ c=>AllL G c
 | .scope c=>AllL G c
 | .loop c=>G c∧AllL G c
 | .rangeFunc g ps x y=>G (.rangeFunc g ps x y)∧AllL G x∧AllL G y
 | _=>True
def loopsOf:Code→List Code
 | .seq x y=>loopsOf x++loopsOf y
 | .cond _ x y=>loopsOf x++loopsOf y
 | .block _ c=>loopsOf c
 | .scope c=>loopsOf c
 | .loop c=>c::loopsOf c
 | .rangeFunc g ps x y=>.rangeFunc g ps x y::loopsOf x++loopsOf y
 | _=>[]
theorem allL_of{G:Code→Prop}:∀ {c:Code},(∀ d∈loopsOf c,G d)→AllL G c
 | .seq x y,h=>⟨allL_of fun d hd=>h d (List.mem_append_left _ hd),allL_of fun d hd=>h d (List.mem_append_right _ hd)⟩
 | .cond _ x y,h=>⟨allL_of fun d hd=>h d (List.mem_append_left _ hd),allL_of fun d hd=>h d (List.mem_append_right _ hd)⟩
 | .block _ c,h=>allL_of (c:=c) h
 | .scope c,h=>allL_of (c:=c) h
 | .loop c,h=>⟨h c (List.mem_cons_self ..),allL_of fun d hd=>h d (List.mem_cons_of_mem _ hd)⟩
 | .rangeFunc g ps x y,h=>⟨h _ (List.mem_append_left _ (List.mem_cons_self ..)),allL_of fun d hd=>h d (List.mem_append_left _ (List.mem_cons_of_mem _ hd)),allL_of fun d hd=>h d (List.mem_append_right _ hd)⟩
 | .skip,_=>trivial
 | .label _,_=>trivial
 | .exit _,_=>trivial
 | .ret,_=>trivial
 | .region ..,_=>trivial
 | .goto _,_=>trivial
 | .refuse _,_=>trivial
def CdSd(P:Program)(rn:Option Nat)(c:Code)(s:S)(e:Ex)(s':S):Prop :=
 ∀ w0 ms α I a W,Inv P w0 ms s α I a W→∀ Q,(∀ x a' W',Post P w0 ms α I e s' x a' W'→Q x a' W')→wpR rn P c Q a W
def LpSd(P:Program)(rn:Option Nat)(c:Code)(s:S)(e:Ex)(s':S):Prop :=
 ∃ m,∀ w0 ms α I a W,Inv P w0 ms s α I a W→∀ Q,(∀ x a' W',Post P w0 ms α I e s' x a' W'→Q x a' W')→roundsR rn P c Q m a W
structure Kit.Ok(P:Program)(E:LId→LSt→M Rd1)(Γ:Cn)(G:Code→Prop)(rn:Option Nat)(K:Kit):Prop where
 op:∀ s o e s',Ev E Γ (Ex×S) (K.op s o) (e,s')→OpSd P rn o s e s'
 dr:∀ id ops s e s',Ev E Γ (Ex×S) (K.dr ops s) (e,s')→CdSd P rn (.region id ops true) s e s'
 lo:∀ c s m e s',G c→(∀ s e s',Ev E Γ (Ex×S) (evC K c s) (e,s')→CdSd P rn c s e s')→K.lo c s=some m→Ev E Γ (Ex×S) m (e,s')→LpSd P rn c s e s'
 rg:∀ g ps sg body s e s',G (.rangeFunc g ps sg body)→(∀ s e s',Ev E Γ (Ex×S) (evC K sg s) (e,s')→CdSd P rn sg s e s')→(∀ s e s',Ev E Γ (Ex×S) (evC K body s) (e,s')→CdSd P rn body s e s')→Ev E Γ (Ex×S) (K.rg g ps sg body s) (e,s')→CdSd P rn (.rangeFunc g ps sg body) s e s'
theorem evLoop_ok{rn:Option Nat}{c:Code}{body:S→M (Ex×S)}(hb:∀ s e s',Ev E Γ (Ex×S) (body s) (e,s')→CdSd P rn c s e s'):∀ (n:Nat)(s:S)(e:Ex)(s':S),Ev E Γ (Ex×S) (evLoop body n s) (e,s')→LpSd P rn c s e s'
 | 0,s,e,s',he=>by cases he
 | n+1,s,e,s',he=>by
  unfold evLoop at he
  obtain⟨⟨e1,s1⟩,h1,h2⟩:=ev_bind he
  by_cases hn:e1=.normal
  ·subst hn
   obtain⟨m,hm⟩:=evLoop_ok hb n s1 e s' h2
   refine⟨m+1,fun w0 ms α I a W hi Q hQ=>hb s _ s1 h1 w0 ms α I a W hi _ fun x a' W' hp=>?_⟩
   obtain⟨α',I',g1,g2,g3,g4⟩:=hp
   cases x with
   | normal=>exact hm w0 ms α' I' a' W' g4 Q fun x a'' W'' hp'=>hQ x a'' W'' (hp'.le g1 g2)
   | _=>exact g3.elim
  have h3:(e,s')=(e1,s1):=by
   cases e1 with
   | normal=>exact absurd rfl hn
   | _=>cases h2;rfl
  cases h3
  refine⟨1,fun w0 ms α I a W hi Q hQ=>hb s _ _ h1 w0 ms α I a W hi _ fun x a' W' hp=>?_⟩
  have hq:=hQ x a' W' hp
  obtain⟨α',I',g1,g2,g3,g4⟩:=hp
  cases x with
  | normal =>
   cases e with
   | normal=>exact absurd rfl hn
   | _=>exact g3.elim
  | _=>exact hq
theorem know_ok{c:Operand}{b:Bool}(hi:Inv P w0 ms s α I a W)(hd:s.opd c=.v (.bool b)):Inv P w0 ms (s.know c b) α I a W∧a.eval c=.bool b:=by
 cases c with
 | tmp t=>exact known_ok hi hd
 | const v =>
  exfalso
  have hd:constD v=.v (.bool b):=hd
  unfold constD at hd
  split at hd
  ·split at hd<;>cases hd
  ·cases hd
  cases hd
 | global g=>cases hd
 | func f=>cases hd
theorem evC_ok{rn:Option Nat}{K:Kit}{G:Code→Prop}(hK:K.Ok P E Γ G rn):∀ (c:Code)(s:S)(e:Ex)(s':S),AllL G c→Ev E Γ (Ex×S) (evC K c s) (e,s')→CdSd P rn c s e s'
 | .skip,s,e,s',hg,he=>by
  cases he
  exact fun w0 ms α I a W hi Q hQ=>wpR_skip (hQ _ _ _ ⟨α,I,.refl _,.refl _,trivial,hi⟩)
 | .label _,s,e,s',hg,he=>by
  cases he
  exact fun w0 ms α I a W hi Q hQ=>wpR_label (hQ _ _ _ ⟨α,I,.refl _,.refl _,trivial,hi⟩)
 | .exit id,s,e,s',hg,he=>by
  cases he
  exact fun w0 ms α I a W hi Q hQ=>wpR_exit (hQ _ _ _ ⟨α,I,.refl _,.refl _,rfl,hi⟩)
 | .ret,s,e,s',hg,he=>by
  cases he
  exact fun w0 ms α I a W hi Q hQ=>wpR_ret (hQ _ _ _ ⟨α,I,.refl _,.refl _,trivial,hi⟩)
 | .region id ops false,s,e,s',hg,he=>fun w0 ms α I a W hi Q hQ=>wpR_region (evOps_ok hK.op ops.toList s e s' he w0 ms α I a W hi Q hQ)
 | .region id ops true,s,e,s',hg,he=>hK.dr id ops s e s' he
 | .seq x y,s,e,s',hg,he=>fun w0 ms α I a W hi Q hQ=>by
  unfold evC at he
  obtain⟨⟨e1,s1⟩,h1,h2⟩:=ev_bind he
  refine wpR_seq (evC_ok hK x s e1 s1 hg.1 h1 w0 ms α I a W hi _ fun z a' W' hp=>?_)
  by_cases hn:e1=.normal
  ·subst hn
   obtain⟨α',I',g1,g2,g3,g4⟩:=hp
   cases z with
   | normal=>exact evC_ok hK y s1 e s' hg.2 h2 w0 ms α' I' a' W' g4 Q fun x a'' W'' hp'=>hQ x a'' W'' (hp'.le g1 g2)
   | _=>exact g3.elim
  have h3:(e,s')=(e1,s1):=by
   cases e1 with
   | normal=>exact absurd rfl hn
   | _=>cases h2;rfl
  cases h3
  have hq:=hQ z a' W' hp
  obtain⟨α',I',g1,g2,g3,g4⟩:=hp
  cases z with
  | normal =>
   cases e with
   | normal=>exact absurd rfl hn
   | _=>exact g3.elim
  | _=>exact hq
 | .cond c x y,s,e,s',hg,he=>fun w0 ms α I a W hi Q hQ=>by
  unfold evC at he
  split at he
  ·rename_i b hb
   have hD:=hi.opd c
   rw [hb]at hD
   generalize hx:a.eval c=v at hD
   cases hD
   cases b with
   | true=>exact wpR_cond_true hx (evC_ok hK x s e s' hg.1 he w0 ms α I a W hi Q hQ)
   | false=>exact wpR_cond_false hx (evC_ok hK y s e s' hg.2 he w0 ms α I a W hi Q hQ)
  ·rename_i b hb
   obtain⟨hi',hx⟩:=know_ok hi hb
   cases he with
   | brt h he=>subst h;exact wpR_cond_true hx (evC_ok hK x _ e s' hg.1 he w0 ms α I a W hi' Q hQ)
   | brf h he=>subst h;exact wpR_cond_false hx (evC_ok hK y _ e s' hg.2 he w0 ms α I a W hi' Q hQ)
  cases he
 | .block id c,s,e,s',hg,he=>fun w0 ms α I a W hi Q hQ=>by
  unfold evC at he
  obtain⟨⟨e1,s1⟩,h1,h2⟩:=ev_bind he
  have h3:(e,s')=outB id (e1,s1):=ev_pure_eq h2
  refine wpR_block (evC_ok hK c s e1 s1 hg h1 w0 ms α I a W hi _ fun z a' W' hp=>?_)
  obtain⟨α',I',g1,g2,g3,g4⟩:=hp
  cases e1 with
  | exit i =>
   cases z with
   | exit j =>
    obtain rfl:i=j:=g3
    unfold outB at h3
    dsimp only at h3
    show if i=id then Q .normal a' W' else Q (.exit i) a' W'
    by_cases hid:i=id
    ·rw [if_pos hid]at h3 ⊢
     cases h3
     exact hQ _ _ _ ⟨α',I',g1,g2,trivial,g4⟩
    rw [if_neg hid]at h3 ⊢
    cases h3
    exact hQ _ _ _ ⟨α',I',g1,g2,rfl,g4⟩
   | _=>exact g3.elim
  | normal =>
   cases h3
   cases z with
   | normal=>exact hQ _ _ _ ⟨α',I',g1,g2,g3,g4⟩
   | _=>exact g3.elim
  | ret =>
   cases h3
   cases z with
   | ret=>exact hQ _ _ _ ⟨α',I',g1,g2,g3,g4⟩
   | _=>exact g3.elim
  | pan d =>
   cases h3
   cases z with
   | panic ch=>exact hQ _ _ _ ⟨α',I',g1,g2,g3,g4⟩
   | _=>exact g3.elim
 | .loop c,s,e,s',hg,he=>fun w0 ms α I a W hi Q hQ=>by
  unfold evC at he
  have hl:LpSd P rn c s e s':=by
   split at he
   ·rename_i m hm
    exact hK.lo c s m e s' hg.1 (fun s e s'=>evC_ok hK c s e s' hg.2) hm he
   exact evLoop_ok (fun s e s'=>evC_ok hK c s e s' hg.2) _ _ _ _ he
  obtain⟨m,hm⟩:=hl
  exact wpR_loop_rounds m (hm w0 ms α I a W hi Q hQ)
 | .rangeFunc g ps sg body,s,e,s',hg,he=>hK.rg g ps sg body s e s' hg.1 (fun s e s'=>evC_ok hK sg s e s' hg.2.1) (fun s e s'=>evC_ok hK body s e s' hg.2.2) he
 | .scope c,s,e,s',hg,he=>fun w0 ms α I a W hi Q hQ=>wpR_scope (evC_ok hK c s e s' hg he w0 ms α I a W hi _ fun z a' W' hp=>by
  have hq:=hQ z a' W' hp
  obtain⟨α',I',g1,g2,g3,g4⟩:=hp
  cases z with
  | goto l=>cases e<;>exact g3.elim
  | _=>exact hq)
 | .goto _,s,e,s',hg,he=>by cases he
 | .refuse _,s,e,s',hg,he=>by cases he
end
end Z
namespace Z
def nmB(p:Nat→Bool):Nat→D→Bool
 | 0,d=>d.pure
 | f+1,d=>d.pure || match d with
  | .agg l=>l.all (nmB p f)
  | .tup l=>l.all (nmB p f)
  | .sl _ _ _ (.tip m)=>p m
  | .p m _ _=>p m
  | .px m _ _=>p m
  | .ar _ m _ _=>p m
  | .mp m=>p m
  | .y m=>p m
  | .fn _ a b=>a.all (nmB p f) && b.all (nmB p f)
  | .ifc _ d=>nmB p f d
  | _=>false
def ltB(f n:Nat)(d:D):Bool:=nmB (fun m=>decide (m<n)) f d
def Al.upto(α:Al)(n:Nat):Al:=fun m=>if m<n then α m else none
def Al.on(α:Al)(p:Nat→Bool):Al:=fun m=>if p m=true then α m else none
section
variable {P:Program}{T:TypeId→Option Ty}{E:LId→LSt→M Rd1}{Γ:Cn}{w0:World}{ms:Ms}{h h':Heap}{α α' β:Al}{I I':Gh}{W W':World}{o:Oper}{a a0:Act}{s s':S}{n:Nat}
theorem Al.upto_at{m:Nat}{r:Reg}(hm:m<n)(hr:α m=some r):α.upto n m=some r:=by unfold Al.upto;rw [if_pos hm];exact hr
theorem Al.upto_le:LeA (α.upto n) α:=fun m r hm=>by
 unfold Al.upto at hm
 split at hm
 ·exact hm
 cases hm
theorem Al.on_at{p:Nat→Bool}{m:Nat}{r:Reg}(hm:p m=true)(hr:α m=some r):α.on p m=some r:=by unfold Al.on;rw [if_pos hm];exact hr
theorem Al.on_le{p:Nat→Bool}:LeA (α.on p) α:=fun m r hm=>by
 unfold Al.on at hm
 split at hm
 ·exact hm
 cases hm
theorem Den.nm{p:Nat→Bool}{d:D}{x:Value}(h:Den T I α d x):∀ f,nmB p f d=true→Den T I (α.on p) d x:=by
 have hpu:∀ {d:D} {x:Value},Den T I α d x→d.pure=true→Den T I (α.on p) d x:=fun h hp=>h.pure' _ hp
 induction h with
 | k h=>exact fun _ _=>.k h
 | v h=>exact fun _ _=>.v h
 | any=>exact fun _ _=>.any
 | mem g ht he hg hd ih=>exact fun _ _=>.mem g ht he hg hd
 | ep g hg hd ih=>exact fun _ _=>.ep g hg hd
 | agg hl hd ih =>
  intro f hf
  cases f with
  | zero=>cases hf
  | succ f =>
   have hf:=List.all_eq_true.1 hf
   exact .agg hl fun j d x h1 h2=>ih j d x h1 h2 (fun h hp=>h.pure' _ hp) f (hf d (List.mem_of_getElem? h1))
 | tup hl hd ih =>
  intro f hf
  cases f with
  | zero=>cases hf
  | succ f =>
   have hf:=List.all_eq_true.1 hf
   exact .tup hl fun j d x h1 h2=>ih j d x h1 h2 (fun h hp=>h.pure' _ hp) f (hf d (List.mem_of_getElem? h1))
 | sl hc hk hm ih =>
  rename_i tk _ _
  intro f hf
  refine .sl hc ?_ fun hn=>(hm hn).pure' _ rfl
  cases tk with
  | tip m =>
   cases f with
   | zero=>cases hf
   | succ f =>
    have hf:p m=true:=hf
    obtain⟨r,h1,h2⟩:=hk
    exact⟨r,Al.on_at hf h1,h2⟩
  | _=>exact hk
 | @px _ m i q r hr =>
  intro f hf
  cases f with
  | zero=>cases hf
  | succ f =>
   have hf:p m=true:=hf
   exact .px (Al.on_at hf hr)
 | @p _ m i q r hr =>
  intro f hf
  cases f with
  | zero=>cases hf
  | succ f =>
   have hf:p m=true:=hf
   exact .p (Al.on_at hf hr)
 | @ar _ kn m i len c r A hr hw hc hA =>
  intro f hf
  cases f with
  | zero=>cases hf
  | succ f =>
   have hf:p m=true:=hf
   exact .ar (Al.on_at hf hr) hw hc hA
 | @mp _ m r hr =>
  intro f hf
  cases f with
  | zero=>cases hf
  | succ f =>
   have hf:p m=true:=hf
   exact .mp (Al.on_at hf hr)
 | @y _ m r hr =>
  intro f hf
  cases f with
  | zero=>cases hf
  | succ f =>
   have hf:p m=true:=hf
   exact .y (Al.on_at hf hr)
 | @ifc _ t d x hd ih =>
  intro f hf
  cases f with
  | zero=>exact(Den.ifc hd).pure' _ hf
  | succ f =>
   by_cases hp:(D.ifc t d).pure=true
   ·exact(Den.ifc hd).pure' _ hp
   have hf:((D.ifc t d).pure || nmB p f d)=true:=hf
   rw [Bool.eq_false_iff.2 hp,Bool.false_or]at hf
   exact .ifc (ih (fun h hp=>h.pure' _ hp) f hf)
 | @fn _ g x y u v ha hb hx hy ih1 ih2 =>
  intro f hf
  cases f with
  | zero=>exact(Den.fn ha hb hx hy).pure' _ hf
  | succ f =>
   by_cases hp:(D.fn g x y).pure=true
   ·exact(Den.fn ha hb hx hy).pure' _ hp
   have hf:((D.fn g x y).pure || (x.all (nmB p f) && y.all (nmB p f)))=true:=hf
   rw [Bool.eq_false_iff.2 hp,Bool.false_or,Bool.and_eq_true]at hf
   exact .fn ha hb (fun j d v h1 h2=>ih1 j d v h1 h2 (fun h hp=>h.pure' _ hp) f (List.all_eq_true.1 hf.1 d (List.mem_of_getElem? h1))) fun j d v h1 h2=>ih2 j d v h1 h2 (fun h hp=>h.pure' _ hp) f (List.all_eq_true.1 hf.2 d (List.mem_of_getElem? h1))
theorem Al.upto_on:α.upto n=α.on fun m=>decide (m<n):=by
 funext m
 unfold Al.upto Al.on
 by_cases h:m<n
 ·rw [if_pos h,if_pos (decide_eq_true h)]
 rw [if_neg h,if_neg (by simpa using h)]
theorem Den.lt{d:D}{x:Value}(h:Den T I α d x)(f:Nat)(hf:ltB f n d=true):Den T I (α.upto n) d x:=by
 rw [Al.upto_on];exact h.nm f hf
def nmK(π:Nat→Bool):Blk→Bool
 | .arr true _ _ l=>l.all fun d=>d.cells.all (nmB π 8)
 | .map true _ es=>es.all fun p=>p.2.cells.all (nmB π 8)
 | .rc _ ts _ _=>ts.all (nmB π 8)
 | _=>true
theorem Laid.nm{π:Nat→Bool}{k:Nat}{l:List D}{c:Nat→Option Value}(hl:Laid T I α k l c)(hp:∀ d∈l,∀ e∈d.cells,nmB π 8 e=true):Laid T I (α.on π) k l c :=
 ⟨hl.1,fun i j d e h1 h2=>let ⟨x,h3,h4,h5⟩:=hl.2 i j d e h1 h2;⟨x,h3,h4.nm 8 (hp d (List.mem_of_getElem? h1) e (List.mem_of_getElem? h2)),h5⟩⟩
theorem pure_nm{π:Nat→Bool}{d:D}(h:d.pure=true):nmB π 8 d=true:=by
 show(d.pure || _)=true
 rw [h,Bool.true_or]
theorem look_mem:∀ {es:List (Int×D)}{k:Int}{d:D},look es k=some d→∃ p∈es,p.2=d
 | [],_,_,h=>nomatch h
 | (q,e)::r,k,d,h=>by
  unfold look at h
  split at h
  ·exact⟨_,List.mem_cons_self ..,Option.some.inj h⟩
  obtain⟨p,h1,h2⟩:=look_mem h
  exact⟨p,List.mem_cons_of_mem _ h1,h2⟩
theorem Rep.nmk{π:Nat→Bool}{r:Reg}{B:Blk}(hr:Rep P T I α W r B)(hb:nmK π B=true):Rep P T I (α.on π) W r B:=by
 cases B with
 | non=>exact hr
 | dead=>exact hr
 | tip t=>exact hr
 | mk=>exact hr
 | arr kn t w l =>
  obtain⟨h1,h2,h3,ty,c,tt,h4,h5,h6,h7,h8,h9,h10,h11⟩:=hr
  refine⟨h1,h2,h3,ty,c,tt,h4,h5,h6,h7,h8,h9,h10,h11.nm fun d hd e he=>?_⟩
  cases kn with
  | true=>exact List.all_eq_true.1 (List.all_eq_true.1 hb d hd) e he
  | false=>exact pure_nm (List.all_eq_true.1 (h10 rfl d hd).2 e he)
 | map kn t es =>
  obtain⟨h1,kt,et,kk,ty,l,nx,h2,h3,h4,h5,h6,h7,h8,h9⟩:=hr
  refine⟨h1,kt,et,kk,ty,l,nx,h2,h3,h4,h5,h6,h7,h8,fun k=>?_⟩
  have:=h9 k
  cases hk:look es k with
  | none=>rw [hk]at this;exact this
  | some d =>
   rw [hk]at this
   obtain⟨q,g1,g2,g3⟩:=this
   refine⟨q,g1,g2,g3.nm fun d' hd e he=>?_⟩
   obtain rfl:d'=d:=by simpa using hd
   obtain⟨p,hp,rfl⟩:=look_mem hk
   cases kn with
   | true=>exact List.all_eq_true.1 (List.all_eq_true.1 hb p hp) e he
   | false=>exact pure_nm (((h8 p hp).2 rfl).pu e he)
 | rc f ts st pe =>
  obtain⟨h1,L,hL,h0,h2,h3,h4⟩:=hr
  exact⟨h1,L,hL,h0,h2,h3,fun j d x g1 g2=>(h4 j d x g1 g2).nm 8 (List.all_eq_true.1 hb d (List.mem_of_getElem? g1))⟩
def ltK(n:Nat)(b:Blk):Bool:=nmK (fun m=>decide (m<n)) b
theorem Rep.ltk{r:Reg}{B:Blk}(hr:Rep P T I α W r B)(hb:ltK n B=true):Rep P T I (α.upto n) W r B:=by
 rw [Al.upto_on];exact hr.nmk hb
theorem HInv.lt(hi:HInv P T w0 ms h α I W)(hk:∀ m,m<n→at_ h' m=.dead∨(at_ h' m=at_ h m∧ltK n (at_ h m)=true))(ho:∀ m,n≤m→at_ h' m=.non):HInv P T w0 ms h' (α.upto n) I W:=by
 have hlv:∀ m,(at_ h' m).live=true→m<n∧at_ h' m=at_ h m∧ltK n (at_ h m)=true:=fun m hm=>by
  by_cases hmn:m<n
  ·rcases hk m hmn with h1|h1
   ·rw [h1]at hm;cases hm
   exact⟨hmn,h1⟩
  rw [ho m (by omega)]at hm;cases hm
 refine⟨hi.old,fun m r hr=>?_,fun m hm=>?_,fun m q r r' hmq h1 h2 h3 h4=>?_,hi.gh,hi.g0⟩
 ·by_cases hmn:m<n
  ·rcases hk m hmn with h1|h1
   ·rw [h1];exact fun e=>nomatch e
   rw [h1.1];exact hi.dom m r (Al.upto_le m r hr)
  exfalso
  unfold Al.upto at hr
  rw [if_neg hmn]at hr;cases hr
 ·obtain⟨hmn,he,hlt⟩:=hlv m hm
  rw [he]at hm ⊢
  obtain⟨r,h1,h2,h3⟩:=hi.liv m hm
  exact⟨r,Al.upto_at hmn h1,h2,h3.ltk hlt⟩
 obtain⟨_,he,_⟩:=hlv m h1
 obtain⟨_,he',_⟩:=hlv q h2
 rw [he]at h1
 rw [he']at h2
 exact hi.sep m q r r' hmq h1 h2 (Al.upto_le _ _ h3) (Al.upto_le _ _ h4)
end
end Z
namespace Z
inductive SK0 where
 | one (c:CK)|row (l:List CK)|imm (l:List CK)
inductive SK where
 | el (k:SK0)|fix (d:D)|fn (f:FuncId) (l:List SK0)|arr (n:Nat)|xt (row:Bool) (l:List (Option Nat×CK))
inductive BK where
 | op (t:TypeId) (w:Option Nat)|each (t:TypeId) (w:Nat) (l:List SK)|map (t:TypeId)|tip (t:TypeId)|rc (f:FuncId) (n:Nat) (l:List (Tmp×SK)) (st:LoopState) (pe:PE)|mk
def canC:CK→D→Option D
 | .i k,.k (.int k' x)=>if k'=k then some (.v (.int k x))else none
 | .i k,.v (.int k' x)=>if k'=k then some (.v (.int k x))else none
 | .b,.k (.bool x)=>some (.v (.bool x))
 | .b,.v (.bool x)=>some (.v (.bool x))
 | .s,.k (.string x)=>some (.v (.string x))
 | .s,.v (.string x)=>some (.v (.string x))
 | .sl t,.sl _ t' l _=>if t'=t then some (.sl false t l .non)else none
 | .o,d=>some d
 | _,_=>none
def canCL:List CK→List D→Option (List D)
 | [],[]=>some []
 | c::r,d::l=>match canC c d,canCL r l with
  | some e,some m=>some (e::m)
  | _,_=>none
 | _,_=>none
def canK0:SK0→D→Option D
 | .one c,d=>canC c d
 | .row cs,.agg l=>match canCL cs l with
  | some m=>some (.agg m)
  | none=>none
 | .imm cs,.ep (.agg l) 0=>match canCL cs l with
  | some m=>some (.ep (.agg m) 0)
  | none=>none
 | _,_=>none
def canL{κ:Type}(f:κ→D→Option D):List κ→List D→Option (List D)
 | [],[]=>some []
 | c::r,d::l=>match f c d,canL f r l with
  | some e,some m=>some (e::m)
  | _,_=>none
 | _,_=>none
def eqP1:List D→List D→Bool
 | [],[]=>true
 | .p n i q::a,.p n' i' q'::b=>n == n' && i == i' && q == q' && eqP1 a b
 | .mp n::a,.mp n'::b=>n == n' && eqP1 a b
 | _,_=>false
theorem eqP1_eq:∀ {a b:List D},eqP1 a b=true→a=b
 | [],[],_=>rfl
 | [],_::_,h=>by simp [eqP1]at h
 | x::a,b,h=>by
  unfold eqP1 at h
  split at h
  ·rename_i he;cases he
  ·rename_i he
   cases he
   simp only [Bool.and_eq_true,beq_iff_eq]at h
   rw [h.1.1.1,h.1.1.2,h.1.2,eqP1_eq h.2]
  ·rename_i he
   cases he
   simp only [Bool.and_eq_true,beq_iff_eq]at h
   rw [h.1,eqP1_eq h.2]
  cases h
def eqD:D→D→Bool
 | .p n i q,.p n' i' q'=>n == n' && i == i' && q == q'
 | .y n,.y n'=>n == n'
 | .mp n,.mp n'=>n == n'
 | .fn (.func f) [] a,.fn (.func g) [] b=>f == g && eqP1 a b
 | .k (.int k i),.k (.int k' j)=>decide (k=k') && decide (i=j)
 | .k (.bool a),.k (.bool b)=>a == b
 | .k .nilIface,.k .nilIface=>true
 | .any,.any=>true
 | _,_=>false
theorem eqD_eq{d e:D}(h:eqD d e=true):d=e:=by
 unfold eqD at h
 split at h
 all_goals try (simp_all;done)
 all_goals try (simp only [Bool.and_eq_true,beq_iff_eq]at h;rw [h.1,eqP1_eq h.2])
def canK:SK→D→Option D
 | .el k,d=>canK0 k d
 | .fix e,d=>if eqD d e=true then some e else none
 | .fn f ks,.fn (.func g) [] b=>if g=f then(match canL canK0 ks b with
  | some m=>some (.fn (.func f) [] m)
  | none=>none)else none
 | .arr n,.ar _ m i len=>if m=n then some (.ar false n i len)else none
 | _,_=>none
def D.unep:D→D
 | .ep d _=>d
 | d=>d
def etaK0:SK0→D→D
 | .one c,d=>etaC c d
 | .row cs,d=>.agg (etaL cs d 0)
 | .imm cs,d=>.ep (.agg (etaL cs d.unep 0)) 0
def etaLL{κ:Type}(f:κ→D→D):List κ→List D→Nat→List D
 | [],_,_=>[]
 | k::r,l,j=>f k (l.getD j .any)::etaLL f r l (j+1)
def D.caps:D→List D
 | .fn _ _ b=>b
 | _=>[]
def D.arI:D→Nat
 | .ar _ _ i _=>i
 | _=>0
def D.arN:D→Nat
 | .ar _ _ _ n=>n
 | _=>0
def etaX:Option Nat×CK→D→D
 | (none,c),d=>etaC c d
 | (some m,.sl t),d=>.sl false t d.items (.tip m)
 | _,d=>d
def etaK:SK→D→D
 | .xt true cs,d=>.agg (etaLL etaX cs d.cells 0)
 | .xt false cs,d=>etaX (cs.headD (none,.o)) d
 | .el k,d=>etaK0 k d
 | .fix e,_=>e
 | .fn f ks,d=>.fn (.func f) [] (etaLL etaK0 ks d.caps 0)
 | .arr n,d=>.ar false n d.arI d.arN
theorem etaC_can{c:CK}{d e:D}(h:canC c d=some e):etaC c e=e:=by
 unfold canC at h
 split at h
 case h_1=>split at h<;>cases h;rename_i hk;subst hk;rfl
 case h_2=>split at h<;>cases h;rename_i hk;subst hk;rfl
 case h_3=>cases h;rfl
 case h_4=>cases h;rfl
 case h_5=>cases h;rfl
 case h_6=>cases h;rfl
 case h_7=>split at h<;>cases h;rename_i hk;subst hk;rfl
 case h_8=>cases h;rfl
 case h_9=>cases h
theorem etaL_can:∀ {cs:List CK}{l m:List D},canCL cs l=some m→∀ (a:List D),etaL cs (.agg (a++m)) a.length=m
 | [],[],m,h,a=>by cases h;rfl
 | [],_::_,m,h,_=>nomatch h
 | _::_,[],m,h,_=>nomatch h
 | c::r,d::l,m,h,a=>by
  unfold canCL at h
  split at h
  ·rename_i e m' h1 h2
   cases h
   have:=etaL_can h2 (a++[e])
   simp only [List.length_append,List.length_singleton,List.append_assoc,List.singleton_append]at this
   have hc:(D.agg (a++e::m')).cell a.length=e:=by simp [D.cell,D.cells,List.getD_eq_getElem?_getD]
   show etaC c ((D.agg (a++e::m')).cell a.length)::etaL r _ (a.length+1)=_
   rw [hc,etaC_can h1,this]
  cases h
theorem etaK0_can{k:SK0}{d e:D}(h:canK0 k d=some e):etaK0 k e=e:=by
 unfold canK0 at h
 split at h
 ·exact etaC_can h
 ·split at h
  ·rename_i h1
   cases h
   have:=etaL_can h1 []
   rw [List.nil_append]at this
   exact congrArg D.agg this
  cases h
 ·split at h
  ·rename_i h1
   cases h
   have:=etaL_can h1 []
   rw [List.nil_append]at this
   exact congrArg (fun l=>D.ep (D.agg l) 0) this
  cases h
 cases h
theorem etaLL_can{κ:Type}{f:κ→D→Option D}{g:κ→D→D}(hg:∀ k d e,f k d=some e→g k e=e):∀ {ks:List κ}{l m:List D},canL f ks l=some m→∀ (a:List D),etaLL g ks (a++m) a.length=m
 | [],[],m,h,a=>by cases h;rfl
 | [],_::_,m,h,_=>nomatch h
 | _::_,[],m,h,_=>nomatch h
 | c::r,d::l,m,h,a=>by
  unfold canL at h
  split at h
  ·rename_i e m' h1 h2
   cases h
   have:=etaLL_can hg h2 (a++[e])
   simp only [List.length_append,List.length_singleton,List.append_assoc,List.singleton_append]at this
   show g c ((a++e::m').getD a.length .any)::etaLL g r _ (a.length+1)=_
   rw [show(a++e::m').getD a.length D.any=e by simp [List.getD_eq_getElem?_getD],hg _ _ _ h1,this]
  cases h
theorem etaK_can{k:SK}{d e:D}(h:canK k d=some e):etaK k e=e:=by
 unfold canK at h
 split at h
 ·exact etaK0_can h
 ·split at h<;>cases h;rfl
 ·split at h
  ·split at h
   ·rename_i h1
    cases h
    have:=etaLL_can (f:=canK0) (g:=etaK0) (fun _ _ _ h=>etaK0_can h) h1 []
    rw [List.nil_append]at this
    exact congrArg (D.fn _ []) this
   cases h
  cases h
 ·split at h<;>cases h;rfl
 cases h
def lkN:List (Nat×Nat)→Nat→Option Nat
 | [],_=>none
 | (m,q)::r,k=>if k=m then some q else lkN r k
def rnm(low:Nat)(ρ:List (Nat×Nat))(k:Nat):Option Nat:=if k<low then some k else lkN ρ k
def canX(low:Nat)(ρ:List (Nat×Nat)):Option Nat×CK→D→Option D
 | (none,c),d=>match canC c d with
  | some e=>if ltB 8 low e=true then some e else none
  | none=>none
 | (some m,.sl t),.sl _ t' l (.tip q)=>if t'=t∧low≤m∧lkN ρ m=some q then some (.sl false t l (.tip m))else none
 | _,_=>none
def canM(low:Nat)(ρ:List (Nat×Nat)):SK→D→Option D
 | .xt true cs,.agg l=>match canL (canX low ρ) cs l with
  | some m=>some (.agg m)
  | none=>none
 | .xt true _,_=>none
 | .xt false [(some m,c)],d=>canX low ρ (some m,c) d
 | .xt false _,_=>none
 | k,d=>match canK k d with
  | some e=>if ltB 8 low e=true then some e else none
  | none=>none
theorem etaX_can{low:Nat}{ρ:List (Nat×Nat)}{c:Option Nat×CK}{d e:D}(h:canX low ρ c d=some e):etaX c e=e:=by
 unfold canX at h
 split at h
 ·split at h
  ·rename_i h1
   split at h<;>cases h
   exact etaC_can h1
  cases h
 ·split at h<;>cases h;rfl
 cases h
theorem etaM_can{low:Nat}{ρ:List (Nat×Nat)}{k:SK}{d e:D}(h:canM low ρ k d=some e):etaK k e=e:=by
 unfold canM at h
 split at h
 ·split at h
  ·rename_i h1
   cases h
   have:=etaLL_can (f:=canX low ρ) (g:=etaX) (fun _ _ _ h=>etaX_can h) h1 []
   rw [List.nil_append]at this
   exact congrArg D.agg this
  cases h
 ·cases h
 ·exact etaX_can h
 ·cases h
 split at h
 ·rename_i h1
  split at h<;>cases h
  exact etaK_can h1
 cases h
def lsEq:LoopState→LoopState→Bool
 | .ready,.ready|.busy,.busy|.done,.done|.exhausted,.exhausted=>true
 | _,_=>false
theorem lsEq_eq{a b:LoopState}(h:lsEq a b=true):a=b:=by cases a<;>cases b<;>first|rfl|cases h
def exD(low:Nat)(ρ:List (Nat×Nat))(ts:List D):List (Tmp×SK)→Option (List D)
 | []=>some []
 | (t,k)::r=>match canM low ρ k (ts.getD t .any),exD low ρ ts r with
  | some d,some l=>some (d::l)
  | _,_=>none
def tAt:List (Tmp×SK)→Nat→List D→Nat→D
 | [],_,_,_=>.any
 | (t,k)::r,j,l,u=>if u=t then etaK k (l.getD j .any)else tAt r (j+1) l u
def wOk:Option Nat→Nat→Bool
 | some w,w'=>w' == w
 | none,_=>true
def canB(P:Program)(low:Nat)(ρ:List (Nat×Nat)):BK→Blk→Option Blk
 | .op t w,.arr kn t' w' l=>if t'=t∧wOk w w'=true then(match tyOf P t with
  | some ty=>if kn=false∨l.all (elB ty)=true then some (.arr false t w' l)else none
  | none=>none)else none
 | .each t w ks,.arr true t' w' l=>if t'=t∧w'=w then(match canL (canM low ρ) ks l with
  | some m=>some (.arr true t w m)
  | none=>none)else none
 | .map t,.map kn t' es=>if t'=t then(match mapT P t with
  | some (_,e)=>(match tyOf P e with
   | some ty=>if kn=false∨es.all (fun p=>elB ty p.2)=true then some (.map false t es)else none
   | none=>none)
  | none=>none)else none
 | .tip t,.tip t'=>if t'=t then some (.tip t)else none
 | .rc f n ks st pe,.rc f' ts st' pe'=>if f'=f∧ts.length=n∧lsEq st' st=true∧pe'=pe then(match exD low ρ ts ks with
  | some m=>some (.rc f m st pe)
  | none=>none)else none
 | .mk,.mk=>some .mk
 | _,_=>none
def Blk.w:Blk→Nat
 | .arr _ _ w _=>w
 | _=>0
def Blk.els:Blk→List D
 | .arr _ _ _ l=>l
 | .rc _ l _ _=>l
 | _=>[]
def Blk.es:Blk→List (Int×D)
 | .map _ _ l=>l
 | _=>[]
def etaB:BK→Blk→Blk
 | .op t (some w),b=>.arr false t w b.els
 | .op t none,b=>.arr false t b.w b.els
 | .each t w ks,b=>.arr true t w (etaLL etaK ks b.els 0)
 | .map t,b=>.map false t b.es
 | .tip t,_=>.tip t
 | .rc f n ks st pe,b=>.rc f ((List.range n).map (tAt ks 0 b.els)) st pe
 | .mk,_=>.mk
section
variable {P:Program}{T:TypeId→Option Ty}{E:LId→LSt→M Rd1}{Γ:Cn}{w0:World}{ms:Ms}{h h':Heap}{α α' β:Al}{I I':Gh}{W W':World}{o:Oper}{a a0:Act}{s s':S}{n:Nat}
theorem canC_ok{c:CK}{d e:D}{x:Value}(h:canC c d=some e)(hd:Den T I α d x):Den T I α e x:=by
 unfold canC at h
 split at h
 case h_1 =>
  split at h
  ·rename_i hk;subst hk;cases h;cases hd;exact .v rfl
  cases h
 case h_2 =>
  split at h
  ·rename_i hk;subst hk;cases h;cases hd;exact .v rfl
  cases h
 case h_3=>cases h;cases hd;exact .v rfl
 case h_4=>cases h;exact hd
 case h_5=>cases h;cases hd;exact .v rfl
 case h_6=>cases h;exact hd
 case h_7 =>
  split at h
  ·rename_i hk;subst hk;cases h
   cases hd with
   | sl hc hk hm=>exact .sl hc trivial hm
  cases h
 case h_8=>cases h;exact hd
 case h_9=>cases h
theorem canCL_ok:∀ {cs:List CK}{l m:List D},canCL cs l=some m→l.length=m.length∧∀ (j:Nat) e,m[j]?=some e→∃ d,l[j]?=some d∧∀ {I α x},Den T I α d x→Den T I α e x
 | [],[],m,h=>by cases h;exact⟨rfl,fun j e h=>by simp at h⟩
 | [],_::_,m,h=>nomatch h
 | _::_,[],m,h=>nomatch h
 | c::r,d::l,m,h=>by
  unfold canCL at h
  split at h
  ·rename_i e m' h1 h2
   cases h
   obtain⟨h3,h4⟩:=canCL_ok h2
   refine⟨by simp [h3],fun j e' hj=>?_⟩
   cases j with
   | zero =>
    obtain rfl:e=e':=by simpa using hj
    exact⟨d,rfl,fun hd=>canC_ok h1 hd⟩
   | succ j=>exact h4 j e' (by simpa using hj)
  cases h
theorem canK0_ok{k:SK0}{d e:D}{x:Value}(h:canK0 k d=some e)(hd:Den T I α d x):Den T I α e x:=by
 unfold canK0 at h
 split at h
 ·exact canC_ok h hd
 ·split at h
  ·rename_i h1
   cases h
   obtain⟨h2,h3⟩:=canCL_ok (T:=T) h1
   cases hd with
   | agg hl hd =>
    refine .agg (by omega) fun j d x g1 g2=>?_
    obtain⟨d0,g3,g4⟩:=h3 j d g1
    exact g4 (hd j d0 x g3 g2)
  cases h
 ·split at h
  ·rename_i l m h1
   cases h
   obtain⟨h2,h3⟩:=canCL_ok (T:=T) h1
   cases hd with
   | ep g hI hd =>
    have e1:∀ l:List D,(D.agg l).cells=l:=fun _=>rfl
    refine .ep g (fun j hj=>hI j ?_) fun j e g1=>?_
    ·rw [e1]at hj ⊢;omega
    rw [e1]at g1
    obtain⟨d0,g3,g4⟩:=h3 j e g1
    exact g4 (hd j d0 (by rw [e1];exact g3))
  cases h
 cases h
theorem canL_get{κ:Type}{f:κ→D→Option D}:∀ {cs:List κ}{l m:List D},canL f cs l=some m→l.length=m.length∧∀ (j:Nat) e,m[j]?=some e→∃ c d,l[j]?=some d∧f c d=some e
 | [],[],m,h=>by cases h;exact⟨rfl,fun j e h=>by simp at h⟩
 | [],_::_,m,h=>nomatch h
 | _::_,[],m,h=>nomatch h
 | c::r,d::l,m,h=>by
  unfold canL at h
  split at h
  ·rename_i e m' h1 h2
   cases h
   obtain⟨h3,h4⟩:=canL_get h2
   refine⟨by simp [h3],fun j e' hj=>?_⟩
   cases j with
   | zero =>
    obtain rfl:e=e':=by simpa using hj
    exact⟨c,d,rfl,h1⟩
   | succ j=>exact h4 j e' (by simpa using hj)
  cases h
theorem canK_ok{k:SK}{d e:D}{x:Value}(h:canK k d=some e)(hd:Den T I α d x):Den T I α e x:=by
 unfold canK at h
 split at h
 ·exact canK0_ok h hd
 ·split at h<;>cases h
  rename_i he
  rw [← eqD_eq he];exact hd
 ·split at h
  ·rename_i hg
   subst hg
   split at h
   ·rename_i h1
    cases h
    obtain⟨h2,h3⟩:=canL_get h1
    cases hd with
    | fn ha hb hx hy =>
     refine .fn ha (by omega) hx fun j d v g1 g2=>?_
     obtain⟨c,d0,g3,g4⟩:=h3 j d g1
     exact canK0_ok g4 (hy j d0 v g3 g2)
   cases h
  cases h
 ·split at h<;>cases h
  rename_i hm
  subst hm
  cases hd with
  | ar hr hw hc hA=>exact .ar hr hw hc hA
 cases h
def Fit(T:TypeId→Option Ty)(d e:D):Prop:=(∀ ty,SzOk ty d→SzOk ty e)∧d.cells.length=e.cells.length∧∀ (j:Nat) e',e.cells[j]?=some e'→∃ d',d.cells[j]?=some d'∧(∀ {I α x},Den T I α d' x→Den T I α e' x)∧(d'.one=true→e'.one=true)
theorem Fit.refl{d:D}:Fit T d d:=⟨fun _ h=>h,rfl,fun j e' h=>⟨e',h,fun h=>h,fun h=>h⟩⟩
theorem canC_one{c:CK}{d e:D}(h:canC c d=some e):d=e∨((∀ l,d≠.agg l)∧(∀ l,e≠.agg l)∧e.one=true):=by
 unfold canC at h
 split at h
 case h_1=>split at h<;>cases h;exact .inr ⟨nofun,nofun,rfl⟩
 case h_2=>split at h<;>cases h;exact .inr ⟨nofun,nofun,rfl⟩
 case h_3=>cases h;exact .inr ⟨nofun,nofun,rfl⟩
 case h_4=>cases h;exact .inl rfl
 case h_5=>cases h;exact .inr ⟨nofun,nofun,rfl⟩
 case h_6=>cases h;exact .inl rfl
 case h_7=>split at h<;>cases h;exact .inr ⟨nofun,nofun,rfl⟩
 case h_8=>cases h;exact .inl rfl
 case h_9=>cases h
theorem cells_on1{d:D}(h:∀ l,d≠.agg l):d.cells=[d]:=by
 cases d<;>first|rfl|exact absurd rfl (h _)
theorem canC_fit{c:CK}{d e:D}(h:canC c d=some e):Fit T d e:=by
 rcases canC_one h with rfl|⟨h1,h2,h3⟩
 ·exact .refl
 refine⟨fun ty hs=>?_,by rw [cells_on1 h1,cells_on1 h2];rfl,fun j e' hj=>?_⟩
 ·unfold SzOk at hs ⊢
  split at hs
  ·obtain⟨l,hl,_⟩:=hs;exact absurd hl (h1 l)
  exact⟨h2,hs.2⟩
 rw [cells_on1 h2]at hj
 rw [cells_on1 h1]
 cases j with
 | zero =>
  obtain rfl:e=e':=by simpa using hj
  exact⟨d,rfl,fun hd=>canC_ok h hd,fun _=>h3⟩
 | succ j=>simp at hj
theorem canCL_get:∀ {cs:List CK}{l m:List D},canCL cs l=some m→∀ (j:Nat) e,m[j]?=some e→∃ c d,l[j]?=some d∧canC c d=some e
 | [],[],m,h,j,e,hj=>by cases h;simp at hj
 | [],_::_,m,h,_,_,_=>nomatch h
 | _::_,[],m,h,_,_,_=>nomatch h
 | c::r,d::l,m,h,j,e,hj=>by
  unfold canCL at h
  split at h
  ·rename_i e0 m' h1 h2
   cases h
   cases j with
   | zero =>
    obtain rfl:e0=e:=by simpa using hj
    exact⟨c,d,rfl,h1⟩
   | succ j=>exact canCL_get h2 j e (by simpa using hj)
  cases h
theorem fit_one{d e:D}(h1:∀ l,d≠.agg l)(h2:∀ l,e≠.agg l)(h3:e.one=true)(h:∀ {I α x},Den T I α d x→Den T I α e x):Fit T d e:=by
 refine⟨fun ty hs=>?_,by rw [cells_on1 h1,cells_on1 h2];rfl,fun j e' hj=>?_⟩
 ·unfold SzOk at hs ⊢
  split at hs
  ·obtain⟨l,hl,_⟩:=hs;exact absurd hl (h1 l)
  exact⟨h2,hs.2⟩
 rw [cells_on1 h2]at hj
 rw [cells_on1 h1]
 cases j with
 | zero =>
  obtain rfl:e=e':=by simpa using hj
  exact⟨d,rfl,h,fun _=>h3⟩
 | succ j=>simp at hj
theorem canK0_fit{k:SK0}{d e:D}(h:canK0 k d=some e):Fit T d e:=by
 unfold canK0 at h
 split at h
 ·exact canC_fit h
 ·split at h
  ·rename_i m h1
   cases h
   obtain⟨h2,h3⟩:=canCL_ok (T:=T) h1
   refine⟨fun ty hs=>?_,h2,fun j e' hj=>?_⟩
   ·unfold SzOk at hs ⊢
    split at hs
    ·obtain⟨q,hq,hl⟩:=hs
     cases hq
     exact⟨m,rfl,by omega⟩
    exact absurd rfl (hs.1 _)
   obtain⟨c,d',g1,g2⟩:=canCL_get h1 j e' hj
   refine⟨d',g1,fun hd=>canC_ok g2 hd,fun ho=>?_⟩
   rcases canC_one g2 with rfl|⟨_,_,q⟩
   ·exact ho
   exact q
  cases h
 ·rename_i cs l
  have hh:canK0 (.imm cs) (.ep (.agg l) 0)=some e:=h
  split at h
  ·cases h
   exact fit_one (fun _=>nofun) (fun _=>nofun) rfl fun hd=>canK0_ok hh hd
  cases h
 cases h
theorem canK_fit{k:SK}{d e:D}(h:canK k d=some e):Fit T d e:=by
 have hk:=fun {I α x}=>canK_ok (T:=T) (I:=I) (α:=α) (x:=x) h
 unfold canK at h
 split at h
 ·exact canK0_fit h
 ·split at h<;>cases h
  rename_i he
  rw [← eqD_eq he];exact .refl
 ·split at h
  ·split at h
   ·cases h;exact fit_one nofun nofun rfl hk
   cases h
  cases h
 ·split at h<;>cases h
  exact fit_one nofun nofun rfl hk
 cases h
def Al.mv(α:Al)(low:Nat)(ρ:List (Nat×Nat)):Al:=fun k=>(rnm low ρ k).bind α
theorem mv_le{low:Nat}{ρ:List (Nat×Nat)}:LeA (α.upto low) (α.mv low ρ):=fun k r hk=>by
 unfold Al.upto at hk
 split at hk
 ·rename_i h
  unfold Al.mv rnm
  rw [if_pos h];exact hk
 cases hk
theorem canX_ok{low:Nat}{ρ:List (Nat×Nat)}{c:Option Nat×CK}{d e:D}{x:Value}(h:canX low ρ c d=some e)(hd:Den T I α d x):Den T I (α.mv low ρ) e x:=by
 unfold canX at h
 split at h
 ·split at h
  ·rename_i h1
   split at h<;>cases h
   rename_i hlt
   exact((canC_ok h1 hd).lt 8 hlt).mono (.refl _) mv_le
  cases h
 ·rename_i m t kn t' l q
  split at h<;>cases h
  rename_i hc
  obtain⟨rfl,hm,hq⟩:=hc
  cases hd with
  | sl hc hk hm' =>
   obtain⟨r,h1,h2⟩:=hk
   refine .sl hc ⟨r,?_,h2⟩ fun hn=>(hm' hn).pure' _ rfl
   unfold Al.mv rnm
   rw [if_neg (by omega),hq];exact h1
 cases h
def FitM(T:TypeId→Option Ty)(low:Nat)(ρ:List (Nat×Nat))(d e:D):Prop:=(∀ ty,SzOk ty d→SzOk ty e)∧d.cells.length=e.cells.length∧∀ (j:Nat) e',e.cells[j]?=some e'→∃ d',d.cells[j]?=some d'∧(∀ {I α x},Den T I α d' x→Den T I (Al.mv α low ρ) e' x)∧(d'.one=true→e'.one=true)
theorem lt_cells{n:Nat}{d:D}(h:ltB 8 n d=true):∀ e∈d.cells,∃ f,ltB f n e=true:=by
 intro e he
 by_cases ha:∃ l,d=.agg l
 ·obtain⟨l,rfl⟩:=ha
  exact⟨7,List.all_eq_true.1 h e he⟩
 rw [cells_on1 (fun l hl=>ha ⟨l,hl⟩)]at he
 rw [List.mem_singleton.1 he];exact⟨8,h⟩
theorem Fit.toM{low:Nat}{ρ:List (Nat×Nat)}{d e:D}(h:Fit T d e)(hl:ltB 8 low e=true):FitM T low ρ d e :=
 ⟨h.1,h.2.1,fun j e' hj=>by
  obtain⟨d',h1,h2,h3⟩:=h.2.2 j e' hj
  obtain⟨f,hf⟩:=lt_cells hl e' (List.mem_of_getElem? hj)
  exact⟨d',h1,fun hd=>((h2 hd).lt f hf).mono (.refl _) mv_le,h3⟩⟩
theorem canX_one{low:Nat}{ρ:List (Nat×Nat)}{c:Option Nat×CK}{d e:D}(h:canX low ρ c d=some e):d=e∨((∀ l,d≠.agg l)∧(∀ l,e≠.agg l)∧e.one=true):=by
 unfold canX at h
 split at h
 ·split at h
  ·rename_i h1
   split at h<;>cases h
   exact canC_one h1
  cases h
 ·split at h<;>cases h
  exact .inr ⟨nofun,nofun,rfl⟩
 cases h
theorem canM_ok{low:Nat}{ρ:List (Nat×Nat)}{k:SK}{d e:D}{x:Value}(h:canM low ρ k d=some e)(hd:Den T I α d x):Den T I (α.mv low ρ) e x:=by
 unfold canM at h
 split at h
 ·split at h
  ·rename_i h1
   cases h
   obtain⟨h2,h3⟩:=canL_get h1
   cases hd with
   | agg hl hd =>
    refine .agg (by omega) fun j d x g1 g2=>?_
    obtain⟨c,d0,g3,g4⟩:=h3 j d g1
    exact canX_ok g4 (hd j d0 x g3 g2)
  cases h
 ·cases h
 ·exact canX_ok h hd
 ·cases h
 split at h
 ·rename_i h1
  split at h<;>cases h
  rename_i hlt
  exact((canK_ok h1 hd).lt 8 hlt).mono (.refl _) mv_le
 cases h
theorem canM_fit{low:Nat}{ρ:List (Nat×Nat)}{k:SK}{d e:D}(h:canM low ρ k d=some e):FitM T low ρ d e:=by
 unfold canM at h
 split at h
 ·split at h
  ·rename_i h1
   cases h
   obtain⟨h2,h3⟩:=canL_get h1
   refine⟨fun ty hs=>?_,h2,fun j e' hj=>?_⟩
   ·unfold SzOk at hs ⊢
    split at hs
    ·obtain⟨q,hq,hl⟩:=hs
     cases hq
     exact⟨_,rfl,by omega⟩
    exact absurd rfl (hs.1 _)
   obtain⟨c,d',g1,g2⟩:=h3 j e' hj
   refine⟨d',g1,fun hd=>canX_ok g2 hd,fun ho=>?_⟩
   rcases canX_one g2 with rfl|⟨_,_,q⟩
   ·exact ho
   exact q
  cases h
 ·cases h
 ·rename_i m c
  have hk:=fun {I:Gh} {α:Al} {x:Value}=>canX_ok (T:=T) (I:=I) (α:=α) (x:=x) h
  have hd:(∀ l,d≠.agg l)∧(∀ l,e≠.agg l)∧e.one=true:=by
   unfold canX at h
   split at h
   ·rename_i heq;cases heq
   ·split at h<;>cases h
    exact⟨nofun,nofun,rfl⟩
   cases h
  obtain⟨h1,h2,h3⟩:=hd
  refine⟨fun ty hs=>?_,by rw [cells_on1 h1,cells_on1 h2];rfl,fun j e' hj=>?_⟩
  ·unfold SzOk at hs ⊢
   split at hs
   ·obtain⟨l,hl,_⟩:=hs;exact absurd hl (h1 l)
   exact⟨h2,hs.2⟩
  rw [cells_on1 h2]at hj
  rw [cells_on1 h1]
  cases j with
  | zero =>
   obtain rfl:e=e':=by simpa using hj
   exact⟨d,rfl,hk,fun _=>h3⟩
  | succ j=>simp at hj
 ·cases h
 split at h
 ·rename_i h1
  split at h<;>cases h
  rename_i hlt
  exact(canK_fit h1).toM hlt
 cases h
theorem exD_at{low:Nat}{ρ:List (Nat×Nat)}{ts:List D}:∀ {sl:List (Tmp×SK)}{l:List D},exD low ρ ts sl=some l→∀ (a:List D)(u:Nat),tAt sl a.length (a++l) u=.any∨(tAt sl a.length (a++l) u∈l∧∃ k,canM low ρ k (ts.getD u .any)=some (tAt sl a.length (a++l) u))
 | [],l,h,a,u=>.inl rfl
 | (t,k)::r,l,h,a,u=>by
  unfold exD at h
  split at h
  ·rename_i d l' h1 h2
   cases h
   unfold tAt
   split
   ·rename_i hu
    subst hu
    rw [show(a++d::l').getD a.length D.any=d by simp [List.getD_eq_getElem?_getD],etaM_can h1]
    exact .inr ⟨List.mem_cons_self ..,k,h1⟩
   ·have:=exD_at h2 (a++[d]) u
    simp only [List.length_append,List.length_singleton,List.append_assoc,List.singleton_append]at this
    exact this.imp id fun h=>⟨List.mem_cons_of_mem _ h.1,h.2⟩
  cases h
theorem mapT_ty{t:TypeId}{kk:IntKind}{e:TypeId}(h:mapT P t=some (kk,e)):∃ kt,P.underlying t=some (.map kt e)∧P.underlying kt=some (.int kk):=by
 unfold mapT at h
 split at h
 ·rename_i k e' h1
  split at h
  ·rename_i h2
   cases h
   exact⟨k,h1,h2⟩
  cases h
 cases h
theorem Rep.mv{low:Nat}{ρ:List (Nat×Nat)}{r:Reg}{B:Blk}(hr:Rep P T I α W r B)(hb:ltK low B=true):Rep P T I (α.mv low ρ) W r B :=
 (hr.ltk hb).keep (.refl _) mv_le (fun _=>rfl) fun _ _ h=>h
theorem canB_ok{low:Nat}{ρ:List (Nat×Nat)}{k:BK}{b b':Blk}{r:Reg}(h:canB P low ρ k b=some b')(hr:Rep P (tyOf P) I α W r b):Rep P (tyOf P) I (α.mv low ρ) W r (etaB k b')∧∀ t,etaB k b'=.tip t→b=.tip t:=by
 unfold canB at h
 split at h
 ·rename_i t w kn t' w' l
  split at h
  ·rename_i htw
   obtain⟨rfl,hw⟩:=htw
   split at h
   ·rename_i ty hty
    split at h
    ·rename_i hkn
     cases h
     have he:etaB (.op t' w) (.arr false t' w' l)=.arr false t' w' l:=by
      cases w with
      | none=>rfl
      | some w =>
       obtain rfl:w'=w:=by simpa [wOk]using hw
       rfl
     rw [he]
     refine⟨Rep.mv (B:=.arr false t' w' l) ?_ rfl,fun t h=>nomatch h⟩
     obtain⟨h1,h2,h3,ty',c,tt,h4,h5,h6,h7,h8,h9,h10,h11⟩:=hr
     rw [hty]at h4;obtain rfl:=Option.some.inj h4
     refine⟨h1,h2,h3,ty,c,tt,hty,h5,h6,⟨h7.1,fun h=>nomatch h⟩,h8,h9,fun _ d hd=>?_,h11⟩
     rcases hkn with hkn|hkn
     ·exact h10 hkn d hd
     ·have:=elB_el (List.all_eq_true.1 hkn d hd)
      exact⟨this.1,List.all_eq_true.2 fun e he=>(this.2 e he).2⟩
    cases h
   cases h
  cases h
 ·rename_i t w ks t' w' l
  split at h
  ·rename_i htw
   obtain⟨rfl,rfl⟩:=htw
   split at h
   ·rename_i m hm
    cases h
    have he:etaB (.each t' w' ks) (.arr true t' w' m)=.arr true t' w' m:=by
     have:=etaLL_can (f:=canM low ρ) (g:=etaK) (fun _ _ _ h=>etaM_can h) hm []
     rw [List.nil_append]at this
     exact congrArg (Blk.arr true t' w') this
    rw [he]
    refine⟨?_,fun t h=>nomatch h⟩
    obtain⟨h1,h2,h3,ty',c,tt,h4,h5,h6,h7,h8,h9,h10,h11⟩:=hr
    obtain⟨g1,g2⟩:=canL_get hm
    have g2:∀ (j:Nat) e,m[j]?=some e→∃ d,l[j]?=some d∧FitM (tyOf P) low ρ d e:=fun j e hj=>by
     obtain⟨c,d,q1,q2⟩:=g2 j e hj
     exact⟨d,q1,canM_fit q2⟩
    refine⟨h1,h2,by omega,ty',c,tt,h4,h5,h6,by rw [← g1];exact h7,h8,fun d hd=>?_,(fun h=>nomatch h),fun i d hd=>?_,fun i j d e hd he=>?_⟩
    ·obtain⟨j,hj⟩:=List.getElem?_of_mem hd
     obtain⟨d0,g3,g4⟩:=g2 j d hj
     exact g4.1 _ (h9 d0 (List.mem_of_getElem? g3))
    ·obtain⟨d0,g3,g4⟩:=g2 i d hd
     rw [← g4.2.1];exact h11.1 i d0 g3
    obtain⟨d0,g3,g4⟩:=g2 i d hd
    obtain⟨e0,g5,g6,g7⟩:=g4.2.2 j e he
    obtain⟨x,q1,q2,q3⟩:=h11.2 i j d0 e0 g3 g5
    exact⟨x,q1,g6 q2,g7 q3⟩
   cases h
  cases h
 ·rename_i t kn t' es
  split at h
  ·rename_i ht
   subst ht
   split at h
   ·rename_i kk' e hmt
    split at h
    ·rename_i ty hty
     split at h
     ·rename_i hkn
      cases h
      refine⟨Rep.mv (B:=.map false t' es) ?_ rfl,fun t h=>nomatch h⟩
      obtain⟨h1,kt,et,kk,ty',l,nx,h2,h3,h4,h5,h6,h7,h8,h9⟩:=hr
      obtain⟨kt',q1,q2⟩:=mapT_ty hmt
      rw [q1]at h2
      obtain⟨rfl,rfl⟩:kt'=kt∧e=et:=by cases h2;exact⟨rfl,rfl⟩
      rw [hty]at h4;obtain rfl:=Option.some.inj h4
      refine⟨h1,kt',e,kk,ty,l,nx,q1,h3,hty,h5,h6,h7,fun p hp=>⟨(h8 p hp).1,fun _=>?_⟩,h9⟩
      rcases hkn with hkn|hkn
      ·exact(h8 p hp).2 hkn
      exact(elB_el (List.all_eq_true.1 hkn p hp)).1
     cases h
    cases h
   cases h
  cases h
 ·split at h<;>cases h
  rename_i ht
  subst ht
  exact⟨Rep.mv hr rfl,fun t h=>h⟩
 ·rename_i f n ks st pe f' ts st' pe'
  split at h
  ·rename_i hc
   obtain⟨rfl,rfl,hst,rfl⟩:=hc
   obtain rfl:=lsEq_eq hst
   split at h
   ·rename_i m hm
    cases h
    refine⟨?_,fun t h=>nomatch h⟩
    obtain⟨h1,L,hL,h0,h2,h3,h4⟩:=hr
    refine⟨h1,L,hL,h0,h2,by simp [h3],fun j d x g1 g2=>?_⟩
    have g1:((List.range ts.length).map (tAt ks 0 m))[j]?=some d:=g1
    rw [List.getElem?_map]at g1
    obtain⟨y,g3,rfl⟩:=Option.map_eq_some_iff.1 g1
    obtain⟨hlt,rfl⟩:∃ _:j<ts.length,j=y:=by
     obtain⟨q1,q2⟩:=List.getElem?_eq_some_iff.1 g3
     exact⟨by simpa using q1,by simpa using q2⟩
    have:=exD_at hm [] j
    rw [List.nil_append]at this
    rcases this with q|⟨_,k,q⟩
    ·rw [show tAt ks 0 m j=.any from q];exact .any
    refine canM_ok q ?_
    rw [List.getD_eq_getElem?_getD,List.getElem?_eq_getElem hlt]
    exact h4 j _ x (List.getElem?_eq_getElem hlt) g2
   cases h
  cases h
 ·cases h;exact⟨Rep.mv hr rfl,fun t h=>h⟩
 cases h
theorem HInv.mv(hi:HInv P T w0 ms h α I W){low:Nat}{ρ:List (Nat×Nat)}(hk:∀ k,(at_ h' k).live=true→∃ q,rnm low ρ k=some q∧(at_ h q).live=true∧(∀ r,Rep P T I α W r (at_ h q)→Rep P T I (α.mv low ρ) W r (at_ h' k))∧∀ t,at_ h' k=.tip t→at_ h q=.tip t)
 (hinj:∀ k m q,(at_ h' k).live=true→(at_ h' m).live=true→rnm low ρ k=some q→rnm low ρ m=some q→k=m) (hdom:∀ k q r,rnm low ρ k=some q→α q=some r→at_ h' k≠.non):HInv P T w0 ms h' (α.mv low ρ) I W:=by
 have hat:∀ {k q:Nat},rnm low ρ k=some q→α.mv low ρ k=α q:=fun {k q} hq=>by unfold Al.mv;rw [hq];rfl
 refine⟨hi.old,fun k r hr=>?_,fun k hl=>?_,fun k m r r' hkm h1 h2 h3 h4=>?_,hi.gh,hi.g0⟩
 ·unfold Al.mv at hr
  cases hq:rnm low ρ k with
  | none=>rw [hq]at hr;cases hr
  | some q=>rw [hq]at hr;exact hdom k q r hq hr
 ·obtain⟨q,hq,h1,h2,h3⟩:=hk k hl
  obtain⟨r,h4,h5,h6⟩:=hi.liv q h1
  exact⟨r,(hat hq).trans h4,fun hv=>(h5 hv).imp id fun h=>⟨h.1,fun t ht=>h.2 t (h3 t ht)⟩,h2 r h6⟩
 obtain⟨q,hq,g1,_⟩:=hk k h1
 obtain⟨p,hp,g2,_⟩:=hk m h2
 rw [hat hq]at h3
 rw [hat hp]at h4
 exact hi.sep q p r r' (fun e=>by subst e;exact hkm (hinj k m q h1 h2 hq hp)) g1 g2 h3 h4
structure Sh where
 slots:List (Tmp×SK)
 names:List (Nat×BK)
structure LCfg where
 n:Nat
 low:Nat
 base:Nat
 inn:Sh
 outs:List (Ex×Sh)
def tipX:List (Option Nat×CK)→List D→List (Nat×Nat)
 | (some m,_)::r,.sl _ _ _ (.tip q)::l=>(m,q)::tipX r l
 | _::r,_::l=>tipX r l
 | _,_=>[]
def tipK:SK→D→List (Nat×Nat)
 | .xt _ cs,d=>tipX cs d.cells
 | _,_=>[]
def tipKs:List SK→List D→List (Nat×Nat)
 | k::r,d::l=>tipK k d++tipKs r l
 | _,_=>[]
def tipB:BK→Blk→List (Nat×Nat)
 | .each _ _ ks,.arr _ _ _ l=>tipKs ks l
 | _,_=>[]
def tipS(sh:Sh)(s:S):List (Nat×Nat):=(sh.slots.flatMap fun p=>tipK p.2 (s.ts.getD p.1 .any))++sh.names.flatMap fun p=>tipB p.2 (at_ s.h p.1)
def exB(P:Program)(h:Heap)(low:Nat)(ρ:List (Nat×Nat)):List (Nat×BK)→Option (List Blk)
 | []=>some []
 | (m,k)::r=>match rnm low ρ m with
  | some q=>(match canB P low ρ k (at_ h q),exB P h low ρ r with
   | some b,some l=>if((etaB k b).live && (at_ h q).live)=true then some (b::l)else none
   | _,_=>none)
  | none=>none
def bAt:List (Nat×BK)→Nat→List Blk→Nat→Blk
 | [],_,_,_=>.dead
 | (m,k)::r,j,l,u=>if u=m then etaB k (l.getD j .dead)else bAt r (j+1) l u
def nodN:List (Option Nat)→Bool
 | []=>true
 | x::l=>!l.contains x && nodN l
def Sh.st(sh:Sh)(n base:Nat)(L:LSt):S:=⟨(List.range n).map (tAt sh.slots 0 L.ds),(List.range base).map (bAt sh.names 0 L.bs),[]⟩
def Sh.ext(P:Program)(sh:Sh)(n low base:Nat)(s:S):Option LSt:=match exD low (tipS sh s) s.ts sh.slots,exB P s.h low (tipS sh s) sh.names with
 | some ds,some bs=>if s.ts.length=n∧s.df.isEmpty=true∧low≤base∧(tipS sh s).all (fun p=>decide (p.1<base))=true∧nodN (sh.names.map fun p=>rnm low (tipS sh s) p.1)=true then some ⟨ds,bs,[]⟩else none
 | _,_=>none
def LCfg.st(c:LCfg)(L:LSt):S:=c.inn.st c.n c.base L
theorem exB_ok{low:Nat}{ρ:List (Nat×Nat)}:∀ {sl:List (Nat×BK)}{l:List Blk},exB P h low ρ sl=some l→∀ (a:List Blk) m,bAt sl a.length (a++l) m=.dead∨(m∈sl.map (·.1)∧(bAt sl a.length (a++l) m).live=true∧∃ q,rnm low ρ m=some q∧(at_ h q).live=true∧∀ {I α W} r,Rep P (tyOf P) I α W r (at_ h q)→Rep P (tyOf P) I (α.mv low ρ) W r (bAt sl a.length (a++l) m)∧∀ t,bAt sl a.length (a++l) m=.tip t→at_ h q=.tip t)
 | [],l,h,a,m=>.inl rfl
 | (p,k)::r,l,h,a,m=>by
  unfold exB at h
  split at h
  ·rename_i q hq
   split at h
   ·rename_i b l' h1 h2
    split at h
    ·rename_i hlt
     cases h
     simp only [Bool.and_eq_true]at hlt
     unfold bAt
     split
     ·rename_i hu
      subst hu
      rw [show(a++b::l').getD a.length Blk.dead=b by simp [List.getD_eq_getElem?_getD]]
      exact .inr ⟨by simp,hlt.1,q,hq,hlt.2,fun r hr=>canB_ok h1 hr⟩
     ·have:=exB_ok h2 (a++[b]) m
      simp only [List.length_append,List.length_singleton,List.append_assoc,List.singleton_append]at this
      exact this.imp id fun h=>⟨by rw [List.map_cons];exact List.mem_cons_of_mem _ h.1,h.2⟩
    cases h
   cases h
  cases h
theorem nod_inj{f:Nat→Option Nat}:∀ {l:List Nat},nodN (l.map f)=true→∀ k m,k∈l→m∈l→f k=f m→k=m
 | [],_,_,_,h,_,_=>nomatch h
 | x::l,hn,k,m,hk,hm,he=>by
  simp only [List.map_cons,nodN,Bool.and_eq_true,Bool.not_eq_true']at hn
  have hx:∀ y∈l,f x≠f y:=fun y hy e=>by
   have:(l.map f).contains (f x)=true:=by
    rw [List.contains_iff_mem,e];exact List.mem_map_of_mem hy
   rw [hn.1]at this;cases this
  rcases List.mem_cons.1 hk with hk|hk
  ·rcases List.mem_cons.1 hm with hm|hm
   ·rw [hk,hm]
   exact absurd (hk▸he) (hx m hm)
  rcases List.mem_cons.1 hm with hm|hm
  ·exact absurd (hm▸he).symm (hx k hk)
  exact nod_inj hn.2 k m hk hm he
theorem lkN_mem:∀ {ρ:List (Nat×Nat)}{k q:Nat},lkN ρ k=some q→(k,q)∈ρ
 | [],_,_,h=>nomatch h
 | (m,p)::r,k,q,h=>by
  unfold lkN at h
  split at h
  ·rename_i hk;cases h;rw [hk];exact List.mem_cons_self ..
  exact List.mem_cons_of_mem _ (lkN_mem h)
theorem at_range{f:Nat→Blk}{b m:Nat}:at_ ((List.range b).map f) m=if m<b then f m else .non:=by
 unfold at_
 rw [List.getD_eq_getElem?_getD,List.getElem?_map]
 split
 ·rename_i h;rw [List.getElem?_range h];rfl
 rename_i h;rw [List.getElem?_eq_none (by simpa using h)];rfl
theorem Sh.ext_ok{c:Sh}{q low n:Nat}{L:LSt}(he:c.ext P q low n s=some L)(hi:Inv P w0 ms s α I a W):Inv P w0 ms (c.st q n L) (α.mv low (tipS c s)) I a W:=by
 unfold Sh.ext at he
 split at he
 ·rename_i ds bs h1 h2
  split at he
  ·rename_i hc
   obtain⟨hn,hdf,hlb,htp,hnd⟩:=hc
   cases he
   have hb:∀ k,at_ (c.st q n ⟨ds,bs,[]⟩).h k=if k<n then bAt c.names 0 bs k else .non:=fun k=>at_range
   have hB:∀ k,(at_ (c.st q n ⟨ds,bs,[]⟩).h k).live=true→k<n∧_:=fun k hl=>by
    rw [hb]at hl
    split at hl
    ·rename_i hk
     have:=exB_ok h2 [] k
     rw [List.nil_append]at this
     rcases this with h3|h3
     ·rw [show bAt c.names 0 bs k=.dead from h3]at hl;cases hl
     exact⟨hk,h3⟩
    cases hl
   refine⟨?_,?_,fun t d x g1 g2=>?_,?_,fun j f d g1 g2=>by simp [Sh.st]at g1⟩
   ·refine hi.hv.mv (fun k hl=>?_) (fun k m p h3 h4 h5 h6=>?_) fun k p r h3 h4=>?_
    ·obtain⟨hk,_,_,p,h3,h4,h5⟩:=hB k hl
     refine⟨p,h3,h4,fun r hr=>?_,fun t ht=>?_⟩
     ·rw [hb,if_pos hk];exact(h5 r hr).1
     rw [hb,if_pos hk]at ht
     obtain⟨r,_,_,h6⟩:=hi.hv.liv p h4
     exact(h5 r h6).2 t ht
    ·obtain⟨_,h7,_⟩:=hB k h3
     obtain⟨_,h8,_⟩:=hB m h4
     refine nod_inj (f:=fun k=>rnm low (tipS c s) k) (l:=c.names.map (·.1)) (by rw [List.map_map];exact hnd) k m h7 h8 (h5.trans h6.symm)
    rw [hb]
    have hk:k<n:=by
     unfold rnm at h3
     split at h3
     ·omega
     ·have:=List.all_eq_true.1 htp _ (lkN_mem h3)
      simpa using this
    rw [if_pos hk]
    have:=exB_ok h2 [] k
    rw [List.nil_append]at this
    rcases this with h5|⟨_,h5,_⟩
    ·rw [show bAt c.names 0 bs k=.dead from h5];exact fun h=>nomatch h
    intro h6
    rw [show bAt c.names [].length bs k=.non from h6]at h5;cases h5
   ·show((List.range q).map _).length=_
    rw [List.length_map,List.length_range,← hn];exact hi.tn
   ·have g1:((List.range q).map (tAt c.slots 0 ds))[t]?=some d:=g1
    rw [List.getElem?_map]at g1
    obtain⟨y,g3,rfl⟩:=Option.map_eq_some_iff.1 g1
    obtain⟨hlt,rfl⟩:∃ _:t<q,t=y:=by
     have:=List.getElem?_eq_some_iff.1 g3
     obtain⟨q1,q2⟩:=this
     exact⟨by simpa using q1,by simpa using q2⟩
    have:=exD_at h1 [] t
    rw [List.nil_append]at this
    rcases this with q|⟨q0,k,q⟩
    ·rw [show tAt c.slots 0 ds t=.any from q];exact .any
    have hd:Den (tyOf P) I α (s.ts.getD t .any) (a.tmps.getD t undef):=hi.opd (.tmp t)
    rw [Array.getD_eq_getD_getElem?,g2]at hd
    exact canM_ok q hd
   ·have:=hi.dn
    rw [List.isEmpty_iff.1 hdf]at this
    exact this
  cases he
 cases he
def exEq:Ex→Ex→Bool
 | .exit i,.exit j=>i == j
 | .ret,.ret=>true
 | _,_=>false
theorem exEq_eq{e f:Ex}(h:exEq e f=true):e=f:=by
 cases e<;>cases f<;>first|rfl|(simp only [exEq,beq_iff_eq]at h;rw [h])|cases h
def outIx(P:Program)(n low base:Nat):List (Ex×Sh)→Ex→S→Nat→Option (Nat×LSt)
 | [],_,_,_=>none
 | (f,sh)::r,e,s,k=>if exEq e f=true then(match sh.ext P n low base s with
  | some L=>some (k,L)
  | none=>outIx P n low base r e s (k+1))else outIx P n low base r e s (k+1)
theorem exEq_pan{d:D}{f:Ex}(h:exEq (.pan d) f=true):False:=by cases f<;>cases h
theorem exEq_nor{f:Ex}(h:exEq .normal f=true):False:=by cases f<;>cases h
theorem outIx_ok{q low:Nat}:∀ {l:List (Ex×Sh)}{e:Ex}{k j:Nat}{L:LSt},outIx P q low n l e s k=some (j,L)→k≤j∧∃ sh,l[j-k]?=some (e,sh)∧sh.ext P q low n s=some L∧e≠.normal∧∀ d,e≠.pan d
 | [],_,_,_,_,h=>nomatch h
 | (f,sh)::r,e,k,j,L,h=>by
  have rest:outIx P q low n r e s (k+1)=some (j,L)→k≤j∧∃ sh',((f,sh)::r)[j-k]?=some (e,sh')∧sh'.ext P q low n s=some L∧e≠.normal∧∀ d,e≠.pan d:=fun h=>by
   obtain⟨h1,sh',h2,h3⟩:=outIx_ok h
   refine⟨by omega,sh',?_,h3⟩
   rw [show j-k=(j-(k+1))+1 by omega]
   simpa using h2
  unfold outIx at h
  split at h
  ·rename_i he
   split at h
   ·rename_i L1 hx
    cases h
    refine⟨Nat.le_refl _,sh,by rw [Nat.sub_self,← exEq_eq he];rfl,hx,fun h=>?_,fun d h=>?_⟩
    ·rw [h]at he;exact exEq_nor he
    rw [h]at he;exact exEq_pan he
   exact rest h
  exact rest h
def LCfg.round(P:Program)(K:Kit)(c:LCfg)(b:Code)(L:LSt):M Rd1:=(evC K b (c.st L)).bind fun r=>match r.1 with
 | .normal=>(match c.inn.ext P c.n c.low c.base r.2 with
  | some L'=>.pure (none,L')
  | none=>.bad 150)
 | e=>match outIx P c.n c.low c.base c.outs e r.2 0 with
  | some (j,L')=>.pure (some j,L')
  | none=>.bad 151
def LCfg.osh(c:LCfg)(j:Nat):Sh:=match c.outs[j]? with
 | some (_,sh)=>sh
 | none=>c.inn
def LCfg.ost(c:LCfg)(j:Nat)(L:LSt):S:=(c.osh j).st c.n c.base L
theorem round_ev{K:Kit}{c:LCfg}{b:Code}{L L':LSt}{q:Option Nat}(he:Ev E Γ Rd1 (c.round P K b L) (q,L')):∃ e s1,Ev E Γ (Ex×S) (evC K b (c.st L)) (e,s1)∧((q=none∧e=.normal∧c.inn.ext P c.n c.low c.base s1=some L')∨∃ j sh,q=some j∧c.outs[j]?=some (e,sh)∧sh.ext P c.n c.low c.base s1=some L'∧e≠.normal∧∀ d,e≠.pan d):=by
 unfold LCfg.round at he
 obtain⟨⟨e,s1⟩,h1,h2⟩:=ev_bind he
 refine⟨e,s1,h1,?_⟩
 dsimp only at h2
 by_cases hn:e=.normal
 ·subst hn
  dsimp only at h2
  cases hx:c.inn.ext P c.n c.low c.base s1 with
  | none=>rw [hx]at h2;cases h2
  | some L1 =>
   rw [hx]at h2
   have:=ev_pure_eq h2
   cases this
   exact .inl ⟨rfl,rfl,rfl⟩
 have h3:Ev E Γ Rd1 (match outIx P c.n c.low c.base c.outs e s1 0 with
  | some (j,L')=>.pure (some j,L')
  | none=>.bad 151) (q,L'):=by
  cases e with
  | normal=>exact absurd rfl hn
  | _=>exact h2
 cases ho:outIx P c.n c.low c.base c.outs e s1 0 with
 | none=>rw [ho]at h3;cases h3
 | some jL =>
  rw [ho]at h3
  have:=ev_pure_eq h3
  cases this
  obtain⟨_,sh,g1,g2,g3,g4⟩:=outIx_ok ho
  exact .inr ⟨_,sh,rfl,by simpa using g1,g2,g3,g4⟩
def PostL(P:Program)(w0:World)(ms:Ms)(low:Nat)(α:Al)(I:Gh)(e:Ex)(s:S)(x:Exit)(a:Act)(W:World):Prop :=
 ∃ α' I',LeA (α.upto low) α'∧LeI I I'∧ExR P I' α' e x∧Inv P w0 ms s α' I' a W
def LpSdL(P:Program)(rn:Option Nat)(low:Nat)(c:Code)(s:S)(e:Ex)(s':S):Prop :=
 ∃ m,∀ w0 ms α I a W,Inv P w0 ms s α I a W→∀ Q,(∀ x a' W',PostL P w0 ms low α I e s' x a' W'→Q x a' W')→roundsR rn P c Q m a W
theorem up_mv{low:Nat}{ρ:List (Nat×Nat)}(hl:LeA α α'):LeA (α.upto low) (α'.mv low ρ):=fun k r hk=>by
 unfold Al.upto at hk
 split at hk
 ·rename_i h
  unfold Al.mv rnm
  rw [if_pos h];exact hl k r hk
 cases hk
theorem up_up{low:Nat}(h1:LeA (α.upto low) α')(h2:LeA (α'.upto low) β):LeA (α.upto low) β:=fun k r hk=>by
 have h3:=h1 k r hk
 unfold Al.upto at hk
 split at hk
 ·rename_i h;exact h2 k r (Al.upto_at h h3)
 cases hk
theorem lp_ok{rn:Option Nat}{K:Kit}{c:LCfg}{b:Code}{id:LId}(hb:∀ s e s',Ev E Γ (Ex×S) (evC K b s) (e,s')→CdSd P rn b s e s')(hE:∀ L,E id L=c.round P K b L){L L':LSt}{j:Nat}(hl:Lp E Γ id L j L'):∃ e sh,c.outs[j]?=some (e,sh)∧LpSdL P rn c.low b (c.st L) e (c.ost j L'):=by
 have key:∀ (id':LId) (L:LSt) (j:Nat) (L':LSt),Lp E Γ id' L j L'→id'=id→∃ e sh,c.outs[j]?=some (e,sh)∧LpSdL P rn c.low b (c.st L) e (c.ost j L'):=by
  intro id' L j L' h
  refine Lp.rec (motive_1:=fun _ _ _ _=>True) (motive_2:=fun id' L j L' _=>id'=id→∃ e sh,c.outs[j]?=some (e,sh)∧LpSdL P rn c.low b (c.st L) e (c.ost j L')) ?_ ?_ ?_ ?_ ?_ ?_ ?_ ?_ ?_ ?_ ?_ ?_ ?_ h
  all_goals try (intros;trivial)
  ·intro id' L L' j h _ hid
   subst hid
   rw [hE]at h
   obtain⟨e,s1,h1,h3⟩:=round_ev h
   rcases h3 with ⟨h3,_⟩|⟨j',sh,h3,h4,h2,h5,h6⟩
   ·cases h3
   cases h3
   have hsh:c.osh j=sh:=by unfold LCfg.osh;rw [h4]
   refine⟨e,sh,h4,1,fun w0 ms α I a W hi Q hQ=>hb _ _ _ h1 w0 ms α I a W hi _ fun x a' W' hp=>?_⟩
   obtain⟨α',I',g1,g2,g3,g4⟩:=hp
   have hq:ExR P I' (α'.mv c.low (tipS sh s1)) e x:=by
    cases e with
    | normal=>exact absurd rfl h5
    | pan d=>exact absurd rfl (h6 d)
    | exit i=>cases x<;>exact g3
    | ret=>cases x<;>exact g3
   have hq2:=hQ x a' W' ⟨_,I',up_mv g1,g2,hq,by unfold LCfg.ost;rw [hsh];exact Sh.ext_ok h2 g4⟩
   cases x with
   | normal =>
    cases e with
    | normal=>exact absurd rfl h5
    | _=>exact g3.elim
   | _=>exact hq2
  intro id' L L1 L' j h hn _ ih hid
  obtain⟨e,sh,h4,m,hm⟩:=ih hid
  subst hid
  rw [hE]at h
  obtain⟨e1,s1,h1,h3⟩:=round_ev h
  rcases h3 with ⟨_,rfl,h2⟩|⟨j',_,h3,_⟩
  ·refine⟨e,sh,h4,m+1,fun w0 ms α I a W hi Q hQ=>hb _ _ _ h1 w0 ms α I a W hi _ fun x a' W' hp=>?_⟩
   obtain⟨α',I',g1,g2,g3,g4⟩:=hp
   cases x with
   | normal =>
    refine hm w0 ms _ I' a' W' (Sh.ext_ok h2 g4) Q fun x a'' W'' hp'=>?_
    obtain⟨α'',I'',k1,k2,k3,k4⟩:=hp'
    exact hQ x a'' W'' ⟨α'',I'',up_up (up_mv g1) k1,g2.trans k2,k3,k4⟩
   | _=>exact g3.elim
  cases h3
 exact key id L j L' hl rfl
end
end Z
namespace Z
section
variable {P:Program}{E:LId→LSt→M Rd1}{Γ:Cn}{w0:World}{ms:Ms}{h h':Heap}{α α' β:Al}{I I':Gh}{W W':World}{o:Oper}{a a0:Act}{s s':S}{n:Nat}
def LCfg.out(g:LCfg)(j:Nat)(L:LSt):M (Ex×S):=match g.outs[j]? with
 | some (e,_)=>.pure (e,g.ost j L)
 | none=>.bad 154
abbrev Find:=Code→S→Option (LId×LCfg)
def nilC:D→Option (Bool×TypeId)
 | .sl kn e [] .nil=>some (kn,e)
 | _=>none
theorem nilC_eq{d:D}{kn:Bool}{e:TypeId}(h:nilC d=some (kn,e)):d=.sl kn e [] .nil:=by
 unfold nilC at h
 split at h
 ·cases h;rfl
 cases h
def nilE(e0:TypeId):D→Option (Bool×TypeId)
 | .k (.slice none 0 0)=>some (true,e0)
 | d=>nilC d
theorem nilE_den{T:TypeId→Option Ty}{I:Gh}{α:Al}{d:D}{e0 e:TypeId}{kn:Bool}{x:Value}(h:nilE e0 d=some (kn,e))(hd:Den T I α d x):Den T I α (.sl kn e [] .nil) x:=by
 unfold nilE at h
 split at h
 ·cases h
  cases hd with
  | k _=>exact .sl (l:=[]) (Nat.le_refl _) ⟨rfl,rfl,rfl⟩ fun h=>absurd rfl h
 rw [nilC_eq h]at hd
 exact hd
def setCe(d:D)(j:Nat)(e:D):D:=match d with
 | .agg l=>.agg (l.set j e)
 | d=>if j=0 then e else d
inductive Loc where
 | tmp (t j:Nat) (e:TypeId)|blk (k i j:Nat)
def mintT(s:S)(t j:Nat)(e0:TypeId):S:=match s.ts[t]? with
 | some d=>(match (d.cells[j]?).bind (nilE e0)with
  | some (kn,e)=>{ s with ts:=s.ts.set t (setCe d j (.sl kn e [] (.tip s.h.length))),h:=put s.h s.h.length (.tip e) }
  | none=>s)
 | none=>s
def mintB(s:S)(k i j:Nat):S:=match at_ s.h k with
 | .arr true t w l=>(match l[i]? with
  | some d=>(match (d.cells[j]?).bind nilC with
   | some (kn,e)=>{ s with h:=put (put s.h s.h.length (.tip e)) k (.arr true t w (l.set i (setCe d j (.sl kn e [] (.tip s.h.length))))) }
   | none=>s)
  | none=>s)
 | _=>s
def mint1(s:S):Loc→S
 | .tmp t j e=>mintT s t j e
 | .blk k i j=>mintB s k i j
def mint(s:S):List Loc→S
 | []=>s
 | p::l=>mint (mint1 s p) l
def ckE:CK→TypeId
 | .sl t=>t
 | _=>0
def locX(f:Nat→TypeId→Loc):List (Option Nat×CK)→Nat→List Loc
 | [],_=>[]
 | (some _,c)::r,j=>f j (ckE c)::locX f r (j+1)
 | (none,_)::r,j=>locX f r (j+1)
def locK(f:Nat→TypeId→Loc):SK→List Loc
 | .xt _ cs=>locX f cs 0
 | _=>[]
def locKs(f:Nat→Nat→TypeId→Loc):List SK→Nat→List Loc
 | [],_=>[]
 | k::r,i=>locK (f i) k++locKs f r (i+1)
def Sh.locs(sh:Sh):List Loc:=(sh.slots.flatMap fun p=>locK (.tmp p.1) p.2)++sh.names.flatMap fun p=>match p.2 with
 | .each _ _ ks=>locKs (fun i j _=>.blk p.1 i j) ks 0
 | _=>[]
theorem setCe_cells{d e:D}{j:Nat}(hj:j<d.cells.length)(he:∀ l,e≠.agg l):(setCe d j e).cells=d.cells.set j e:=by
 unfold setCe
 split
 ·rfl
 rename_i hd
 rw [cells_on1 hd]at hj ⊢
 obtain rfl:j=0:=by simp at hj;exact hj
 rw [if_pos rfl,cells_on1 he];rfl
theorem setCe_sz{ty:Ty}{d e:D}{j:Nat}(hj:j<d.cells.length)(he:∀ l,e≠.agg l)(h:SzOk ty d):SzOk ty (setCe d j e):=by
 unfold SzOk at h ⊢
 split at h
 ·obtain⟨l,rfl,hl⟩:=h
  exact⟨l.set j e,rfl,by simpa using hl⟩
 refine⟨fun l hl=>?_,h.2⟩
 unfold setCe at hl
 split at hl
 ·exact absurd rfl (h.1 _)
 split at hl
 ·exact he _ hl
 exact absurd hl (h.1 _)
theorem den_nil{I:Gh}{kn:Bool}{e:TypeId}{f:Nat}{s:Nat}{x:Value}(h:Den (tyOf P) I α (.sl kn e [] .nil) x):Den (tyOf P) I (α.set f { b:=0,s:=s,w:=0,c:=0,v:=true }) (.sl kn e [] (.tip f)) x:=by
 cases h with
 | sl hc hk hm =>
  obtain⟨h1,h2,h3⟩:=hk
  exact .sl hc ⟨_,Al.set_eq,rfl,h3,(fun h=>nomatch h),fun _=>h3⟩ fun h=>absurd rfl h
theorem den_setCe{I:Gh}{d:D}{j f s:Nat}{kn:Bool}{e:TypeId}{x:Value}{c:D}(hc:∀ {α:Al}{x:Value},Den (tyOf P) I α c x→Den (tyOf P) I α (.sl kn e [] .nil) x)(hf:α f=none)(hj:d.cells[j]?=some c)(h:Den (tyOf P) I α d x):Den (tyOf P) I (α.set f { b:=0,s:=s,w:=0,c:=0,v:=true }) (setCe d j (.sl kn e [] (.tip f))) x:=by
 have hle:LeA α (α.set f { b:=0,s:=s,w:=0,c:=0,v:=true }):=Al.set_le hf
 unfold setCe
 split
 ·rename_i l
  cases h with
  | agg hl hd =>
   refine .agg (by simpa using hl) fun q d' y h1 h2=>?_
   rw [List.getElem?_set]at h1
   split at h1
   ·rename_i hq
    subst hq
    split at h1
    ·cases h1
     exact den_nil (hc (hd j _ y hj h2))
    cases h1
   exact(hd q d' y h1 h2).mono (.refl _) hle
 rename_i hd
 rw [cells_on1 hd]at hj
 match j,hj with
 | 0,hj =>
  obtain rfl:=Option.some.inj hj
  rw [if_pos rfl]
  exact den_nil (hc h)
 | j+1,hj=>simp at hj
theorem mint1_ok{p:Loc}(hi:Inv P w0 ms s α I a W):∃ α',LeA α α'∧Inv P w0 ms (mint1 s p) α' I a W:=by
 have hf:at_ s.h s.h.length=.non:=by simp [at_,List.getD_eq_getElem?_getD]
 have hα:=hi.hv.fresh hf
 have hput:∀ e,HInv P (tyOf P) w0 ms (put s.h s.h.length (.tip e)) (α.set s.h.length { b:=0,s:=0,w:=0,c:=0,v:=true }) I W:=fun e =>
  hi.hv.new hf (fun h=>nomatch h) ⟨rfl,rfl,rfl,Nat.le_refl _,fun _ _ _=>rfl⟩ (.refl _) (fun b q v hv=>.inl hv) (fun _ _ _ h=>h) (fun h=>nomatch h) (.inl rfl)
 have hle:LeA α (α.set s.h.length { b:=0,s:=0,w:=0,c:=0,v:=true }):=Al.set_le hα
 cases p with
 | tmp t j e0 =>
  show ∃ α',LeA α α'∧Inv P w0 ms (mintT s t j e0) α' I a W
  unfold mintT
  split
  ·rename_i d hd
   split
   ·rename_i kn e hn
    obtain⟨c,hc,hn⟩:=Option.bind_eq_some_iff.1 hn
    refine⟨_,hle,hput e,by simpa using hi.tn,fun q d' x h1 h2=>?_,hi.dn,fun j f d h1 h2=>(hi.df j f d h1 h2).mono (.refl _) hle⟩
    dsimp only at h1
    rw [List.getElem?_set]at h1
    split at h1
    ·rename_i hq
     subst hq
     split at h1
     ·cases h1
      exact den_setCe (fun h=>nilE_den hn h) hα hc (hi.ts t d x hd h2)
     cases h1
    exact(hi.ts q d' x h1 h2).mono (.refl _) hle
   exact⟨α,.refl _,hi⟩
  exact⟨α,.refl _,hi⟩
 | blk k i j =>
  show ∃ α',LeA α α'∧Inv P w0 ms (mintB s k i j) α' I a W
  unfold mintB
  split
  ·rename_i t w l hk
   split
   ·rename_i d hd
    split
    ·rename_i kn e hn
     obtain⟨c,hc,hn⟩:=Option.bind_eq_some_iff.1 hn
     rw [nilC_eq hn]at hc
     have hjl:j<d.cells.length:=(List.getElem?_eq_some_iff.1 hc).1
     have hna:∀ l,D.sl kn e [] (.tip s.h.length)≠.agg l:=fun l=>nofun
     have hkf:k≠s.h.length:=by rintro rfl;rw [hf]at hk;cases hk
     have hk1:at_ (put s.h s.h.length (.tip e)) k=.arr true t w l:=by rw [at_put,if_neg hkf,hk]
     obtain⟨r,hr,hb,hrep⟩:=(hput e).liv k (by rw [hk1];rfl)
     rw [hk1]at hrep
     obtain⟨hv,hw,hlw,ty,c',tt,h1,h2,h3,h4,h5,h6,h7,h8⟩:=hrep
     obtain⟨r0,hr0,_,hrep0⟩:=hi.hv.liv k (by rw [hk];rfl)
     rw [hk]at hrep0
     obtain rfl:r0=r:=by
      rw [hle _ _ hr0]at hr;exact Option.some.inj hr
     obtain⟨_,_,_,ty0,c0,tt0,k1,k2,k3,k4,k5,k6,k7,k8⟩:=hrep0
     rw [h1]at k1;obtain rfl:=Option.some.inj k1
     rw [h3]at k3;cases k3
     refine⟨_,hle,HInv.reput (hput e) hr hv (by rw [hk1];rfl) ⟨rfl,rfl,rfl,Nat.le_refl _,fun _ _ _=>rfl⟩ h5 (fun h=>nomatch h) (fun _ h=>nomatch h) ⟨hv,hw,by simpa using hlw,ty,c',tt,h1,h2,h3,by simpa using h4,h5,fun d' hd'=>?_,(fun h=>nomatch h),fun q d' h9=>?_,fun q q' d' e' h9 h10=>?_⟩,hi.tn,fun q d' x h1 h2=>(hi.ts q d' x h1 h2).mono (.refl _) hle,hi.dn,fun j f d h1 h2=>(hi.df j f d h1 h2).mono (.refl _) hle⟩
     ·rcases List.mem_or_eq_of_mem_set hd' with h|rfl
      ·exact h6 d' h
      exact setCe_sz hjl hna (h6 d (List.mem_of_getElem? hd))
     ·rw [List.getElem?_set]at h9
      split at h9
      ·split at h9
       ·cases h9
        rw [setCe_cells hjl hna,List.length_set]
        exact h8.1 i d hd
       cases h9
      exact h8.1 q d' h9
     rw [List.getElem?_set]at h9
     split at h9
     ·rename_i hq
      subst hq
      split at h9
      ·cases h9
       rw [setCe_cells hjl hna,List.getElem?_set]at h10
       split at h10
       ·rename_i hq'
        subst hq'
        cases h10
        obtain⟨x,g1,g2,g3⟩:=k8.2 i j d _ hd hc
        exact⟨x,g1,den_nil g2,rfl⟩
       exact h8.2 i q' d e' hd h10
      cases h9
     exact h8.2 q q' d' e' h9 h10
    exact⟨α,.refl _,hi⟩
   exact⟨α,.refl _,hi⟩
  exact⟨α,.refl _,hi⟩
theorem mint_ok:∀ (l:List Loc){s:S}{α:Al},Inv P w0 ms s α I a W→∃ α',LeA α α'∧Inv P w0 ms (mint s l) α' I a W
 | [],s,α,hi=>⟨α,.refl _,hi⟩
 | p::l,s,α,hi=>by
  obtain⟨α1,h1,h2⟩:=mint1_ok (p:=p) hi
  obtain⟨α2,h3,h4⟩:=mint_ok l h2
  exact⟨α2,h1.trans h3,h4⟩
theorem LpSd.mint{rn:Option Nat}{c:Code}{e:Ex}{l:List Loc}(h:LpSd P rn c (mint s l) e s'):LpSd P rn c s e s':=by
 obtain⟨m,h⟩:=h
 refine⟨m,fun w0 ms α I a W hi Q hQ=>?_⟩
 obtain⟨α1,h1,h2⟩:=mint_ok l hi
 refine h w0 ms α1 I a W h2 Q fun x a' W' hp=>hQ x a' W' ?_
 obtain⟨α',I',k1,k2,k3,k4⟩:=hp
 exact⟨α',I',h1.trans k1,k2,k3,k4⟩
def loM(P:Program)(id:LId)(g:LCfg)(s:S):M (Ex×S):=match g.inn.ext P g.n g.low g.base s with
 | none=>.bad 152
 | some L=>if s.h.length≤g.low then .loop id L (g.out 0) (g.out 1) (g.out 2)else .bad 153
def loK(P:Program)(find:Find)(c:Code)(s:S):Option (M (Ex×S)):=match find c s with
 | none=>none
 | some (id,g)=>some (loM P id g (mint s g.inn.locs))
theorem LCfg.out_ev{g:LCfg}{j:Nat}{L:LSt}{e:Ex}(h:Ev E Γ (Ex×S) (g.out j L) (e,s')){f:Ex}{sh:Sh}(hf:g.outs[j]?=some (f,sh)):e=f∧s'=g.ost j L:=by
 unfold LCfg.out at h
 rw [hf]at h
 have:=ev_pure_eq h
 cases this
 exact⟨rfl,rfl⟩
theorem loK_ok{rn:Option Nat}{K:Kit}{find:Find}{c:Code}{m:M (Ex×S)}{e:Ex}(hG:∀ s id g,find c s=some (id,g)→∀ L,E id L=g.round P K c L)(hb:∀ s e s',Ev E Γ (Ex×S) (evC K c s) (e,s')→CdSd P rn c s e s')(hm:loK P find c s=some m)(he:Ev E Γ (Ex×S) m (e,s')):LpSd P rn c s e s':=by
 unfold loK at hm
 cases hf:find c s with
 | none=>rw [hf]at hm;cases hm
 | some ig =>
  obtain⟨id,g⟩:=ig
  rw [hf]at hm
  dsimp only at hm
  have hm:=Option.some.inj hm
  subst hm
  have hG:=hG s id g hf
  clear hf
  refine LpSd.mint (l:=g.inn.locs) ?_
  generalize mint s g.inn.locs=s at he ⊢
  unfold loM at he
  cases hx:g.inn.ext P g.n g.low g.base s with
  | none=>rw [hx]at he;cases he
  | some L =>
   rw [hx]at he
   dsimp only at he
   by_cases hlen:s.h.length≤g.low
   ·rw [if_pos hlen]at he
    have key:∀ (j:Nat) L',Lp E Γ id L j L'→Ev E Γ (Ex×S) (g.out j L') (e,s')→LpSd P rn c s e s':=fun j L' h1 h2=>by
     obtain⟨f,sh,h3,q,h4⟩:=lp_ok hb hG h1
     obtain⟨rfl,rfl⟩:=LCfg.out_ev h2 h3
     refine⟨q,fun w0 ms α I a W hi Q hQ=>h4 w0 ms _ I a W (Sh.ext_ok hx hi) Q fun x a' W' hp=>?_⟩
     obtain⟨α',I',k1,k2,k3,k4⟩:=hp
     refine hQ x a' W' ⟨α',I',fun k r hk=>?_,k2,k3,k4⟩
     have hkl:k<g.low:=by
      by_cases hkl:k<s.h.length
      ·omega
      exact absurd (by simp [at_,List.getD_eq_getElem?_getD,List.getElem?_eq_none (Nat.le_of_not_lt hkl)]) (hi.hv.dom k r hk)
     refine k1 k r (Al.upto_at hkl ?_)
     unfold Al.mv rnm
     rw [if_pos hkl];exact hk
    cases he with
    | loop0 h1 h2=>exact key 0 _ h1 h2
    | loop1 h1 h2=>exact key 1 _ h1 h2
    | loop2 h1 h2=>exact key 2 _ h1 h2
   rw [if_neg hlen]at he;cases he
end
end Z
namespace Z
section
variable {P:Program}{E:LId→LSt→M Rd1}{Γ:Cn}{w0:World}{ms:Ms}{h h':Heap}{α α' β:Al}{I I':Gh}{W W':World}{o:Oper}{a a0:Act}{s s':S}{n:Nat}
variable {pl:Pl}{ft:Oper→List D→List Nat}{base:Nat}
def tailOk(all:List Oper)(k:Nat):Bool:=let an:=ancL all [];backOk 0 all && (List.range all.length).all fun j=>decide (j<k) || (List.range j).all fun i=>(an.getD j []).contains i
theorem tail_get{all:List Oper}{k i j:Nat}(h:tailOk all k=true)(hj:j<all.length)(hk:k≤j)(hi:i<j):Anc all i j:=by
 simp only [tailOk,Bool.and_eq_true]at h
 have:=List.all_eq_true.1 h.2 j (by simpa using hj)
 simp only [Bool.or_eq_true,decide_eq_true_eq]at this
 have:=List.all_eq_true.1 (this.resolve_left (by omega)) i (by simpa using hi)
 exact ancL_ok all all [] (by simp) (by simp) j i (by simpa using this)
theorem DI.post{ops:Array Oper}{l:List Oper}{es:List Eff}{ss:Nat→S}{c:Nat→Bool}{b:Act}(hr:Run E Γ pl ft ops base l es ss)(h3:ss 0=s)(h4:ss l.length=s')(hi:Inv P w0 ms s α I a W)(hd:DI P l es ss w0 ms α I a c b W')(hall:∀ j,j<l.length→c j=true):Post P w0 ms α I .normal s' .normal b W':=by
 obtain⟨α',I',hα,hI,hv,hsz,hdf,hts⟩:=hd
 obtain⟨g1,g2,g3⟩:=hr.hp P l.length (Nat.le_refl _)
 refine⟨α',I',hα,hI,trivial,⟨hv.congr fun n=>?_,?_,fun t d x q1 q2=>?_,?_,fun j f d q1 q2=>?_⟩⟩
 ·rw [← h4,g1]
  refine hc_agree (fun j e' q1 q2=>?_) rfl
  have hj:j<l.length:=by rw [← hr.len];exact(List.getElem?_eq_some_iff.1 q1).1
  rw [Nat.zero_add,hall j hj]
  exact decide_eq_true hj
 ·rw [← h4,g2,h3,hsz];exact hi.tn
 ·have:=hts t l.length x (Nat.le_refl _) (fun j o' q3 _=>by
   have hj:j<l.length:=(List.getElem?_eq_some_iff.1 q3).1
   exact⟨fun _=>hj,fun _=>hall j hj⟩) q2
  rw [h4,List.getD_eq_getElem?_getD,q1]at this
  exact this
 ·rw [← h4,g3,h3,hdf];exact hi.dn
 rw [← h4,g3,h3]at q1
 rw [hdf]at q2
 exact(hi.df j f d q1 q2).mono hI hα
theorem DI.init{ops:Array Oper}{l:List Oper}{es:List Eff}{ss:Nat→S}(hr:Run E Γ pl ft ops base l es ss)(h3:ss 0=s)(hi:Inv P w0 ms s α I a W):DI P l es ss w0 ms α I a (fun _=>false) a W.drew:=by
 refine⟨α,I,.refl _,.refl _,?_,rfl,rfl,fun t m x q1 q2 q3=>?_⟩
 ·refine HInv.congr (h:=s.h) ?_ fun n=>?_
  ·exact hi.hv.drew
  rw [h3]
  have:at_ (hc (fun _=>false) 0 es s.h) n=at_ (hc (fun m=>decide (m<0+0)) 0 es s.h) n:=hc_agree (fun j e' _ _=>by simp) rfl
  rw [this,hc_take];rfl
 refine hr.tr (k:=0) m (Nat.zero_le _) q1 (fun j o' _ q4 q5 q6=>?_) ?_
 ·have:=(q2 j o' q5 q6).2 q4
  cases this
 rw [h3]
 by_cases hlt:t<s.ts.length
 ·rw [List.getD_eq_getElem?_getD,List.getElem?_eq_getElem hlt]
  exact hi.ts t _ x (List.getElem?_eq_getElem hlt) q3
 rw [List.getD_eq_getElem?_getD,List.getElem?_eq_none (Nat.le_of_not_lt hlt)]
 exact .any
theorem draw_any{rn:Option Nat}{n:Nat}{l tl:List Oper}{ef:List Eff}{ss:Nat→S}{Q:Exit→Act→World→Prop}{listed0:Array Bool}{c0:Nat→Bool}{b0:Act}{W0:World}{fuel:Nat}(hc0e:c0=fun i=>listed0.getD i false)(hpl:∀ (i:Nat) o,l[i]?=some o→c0 i=false→PlS1 P E Γ rn pl ft o)(hr:Run E Γ pl ft (l++tl).toArray base l ef ss)(h3:ss 0=s)(h4:ss l.length=s')(hok:okD (l++tl).toArray l ef n base=true)(htl:tailOk (l++tl) l.length=true)(hb:s.h.length≤base)
 (hi:Inv P w0 ms s α I a W) (hQ:∀ a' W',Post P w0 ms α I .normal s' .normal a' W'→wpLR rn P (l++tl).toArray Q tl a' W') (hsz:listed0.size=(l++tl).toArray.size) (hfu:(listed0.toList.filter (! ·)).length≤fuel) (hcl0:Closed (l++tl) c0) (hno0:∀ j,l.length≤j→c0 j=false) (hd0:DI P l ef ss w0 ms α I a c0 b0 W0):wpAnyIn (FW rn) 0 P .any (l++tl).toArray Q fuel listed0 b0 W0:=by
 subst hc0e
 have hback:backOk 0 (l++tl)=true:=by
  simp only [tailOk,Bool.and_eq_true]at htl
  exact htl.1
 have hops:∀ (i:Nat) o,l[i]?=some o→(l++tl).toArray[i]?=some o:=fun i o h=>by
  have:=(List.getElem?_eq_some_iff.1 h).1
  rw [List.getElem?_toArray,List.getElem?_append_left this];exact h
 let J:(Nat→Bool)→Act→World→Prop:=fun c b W=>(Closed (l++tl) c∧(∀ j,l.length≤j→c j=false)∧(∀ j,listed0.getD j false=true→c j=true)∧DI P l ef ss w0 ms α I a c b W) ∨
  ∃ q,(∀ j,j<l.length+q→c j=true)∧(∀ j,l.length+q≤j→c j=false)∧wpLR rn P (l++tl).toArray Q (tl.drop q) b W
 refine wpAnyIn_inv (fun listed b W=>J (fun i=>listed.getD i false) b W) ?_ ?_ fuel _ _ _ hsz hfu (.inl ⟨hcl0,hno0,fun _ h=>h,hd0⟩)
 ·intro listed b W i hs hJ hi'
  obtain⟨hu,o,ho,hpre⟩:=mem_ready.1 hi'
  have hol:(l++tl)[i]?=some o:=by simpa using ho
  have hil:i<(l++tl).length:=(List.getElem?_eq_some_iff.1 hol).1
  have hci:listed.getD i false=false:=getD_both hu
  have hpreds:∀ p∈preds o,listed.getD p false=true:=fun p hp=>by
   obtain⟨e,he,hb,rfl⟩:=mem_preds.1 hp
   exact hpre e he hb
  have hmask:(fun j=>(listed.setIfInBounds i true).getD j false)=setC (fun j=>listed.getD j false) i:=by
   funext j
   unfold setC
   by_cases e:j=i
   ·subst e
    have hlt:j<listed.size:=by rw [hs];simpa using hil
    simp [Array.getD_eq_getD_getElem?,hlt]
   rw [if_neg e,getD_set_ne false (fun h=>e h.symm)]
  have two:∀ q,(∀ j,j<l.length+q→listed.getD j false=true)→(∀ j,l.length+q≤j→listed.getD j false=false)→i=l.length+q→wpLR rn P (l++tl).toArray Q (tl.drop q) b W→wpOpIn (FW rn) 0 P (l++tl).toArray Q i (fun a' w'=>J (fun j=>(listed.setIfInBounds i true).getD j false) a' w') b W:=by
   intro q g1 g2 g3 g4
   subst g3
   have hq:tl[q]?=some o:=by
    rw [List.getElem?_append_right (by omega)]at hol
    simpa using hol
   have hdr:tl.drop q=o::tl.drop (q+1):=by
    obtain⟨h7,h8⟩:=List.getElem?_eq_some_iff.1 hq
    rw [List.drop_eq_getElem_cons h7,h8]
   rw [hdr]at g4
   have key:∀ a' W',wpLR rn P (l++tl).toArray Q (tl.drop (q+1)) a' W'→J (fun j=>(listed.setIfInBounds (l.length+q) true).getD j false) a' W':=fun a' W' h=>by
    rw [hmask]
    refine .inr ⟨q+1,fun j hj=>?_,fun j hj=>?_,h⟩
    ·by_cases e:j=l.length+q
     ·rw [e];exact setC_eq
     rw [setC_ne e];exact g1 j (by omega)
    rw [setC_ne (by omega)];exact g2 j (by omega)
   refine wpOpIn_mono key ?_
   unfold wpOpIn
   rw [ho]
   exact g4
  rcases hJ with ⟨hcl,hno,hc0,hd⟩|⟨q,g1,g2,g3⟩
  ·by_cases hik:i<l.length
   ·have hol':l[i]?=some o:=by rw [List.getElem?_append_left hik]at hol;exact hol
    refine draw_step (hpl i o hol' (Bool.eq_false_iff.2 fun hq=>by
     have h:listed.getD i false=true:=hc0 i hq
     rw [show listed.getD i false=false from hci]at h;cases h)) hops hr hok (by rw [h3];exact hb) (by rw [h3];exact hi.tn) (fun j o' p hj hcj hp=>hcl j o' p (by rw [List.getElem?_append_left (List.getElem?_eq_some_iff.1 hj).1];exact hj) hcj hp) hol' hci hpreds hd fun a' W' hd'=>?_
    rw [hmask]
    refine .inl ⟨fun j o' p hj hcj hp=>?_,fun j hj=>by rw [setC_ne (by omega)];exact hno j hj,fun j hj=>by
     unfold setC;split
     ·rfl
     exact hc0 j hj,hd'⟩
    unfold setC at hcj ⊢
    by_cases e:p=i
    ·rw [if_pos e]
    rw [if_neg e]
    by_cases e2:j=i
    ·subst e2
     rw [hol]at hj;cases hj
     exact hpreds p hp
    rw [if_neg e2]at hcj
    exact hcl j o' p hj hcj hp
   have hanc:∀ p,p<i→listed.getD p false=true:=fun p hp=>by
    have:=tail_get htl hil (by omega) hp
    cases this with
    | one ho2 hp2=>rw [hol]at ho2;cases ho2;exact hpreds _ hp2
    | more ho2 hq2 ha=>rw [hol]at ho2;cases ho2;exact hcl.anc ha (hpreds _ hq2)
   have hik2:i=l.length+0:=by
    by_cases h:i=l.length
    ·omega
    have h7:=hanc l.length (by omega)
    have h8:listed.getD l.length false=false:=hno l.length (Nat.le_refl _)
    rw [h8]at h7;cases h7
   exact two 0 (fun j hj=>hanc j (by omega)) (fun j hj=>hno j (by omega)) hik2 (hQ _ _ (DI.post hr h3 h4 hi hd fun j hj=>hanc j (by omega)))
  refine two q g1 g2 ?_ g3
  have hge:l.length+q≤i:=by
   by_cases h:l.length+q≤i
   ·exact h
   have h7:listed.getD i false=true:=g1 i (by omega)
   rw [hci]at h7;cases h7
  by_cases h:i=l.length+q
  ·exact h
  have hcl:Closed (l++tl) (fun j=>listed.getD j false):=fun j o' p hj hcj hp=>by
   have hlt:=backOk_get hback hj hp
   refine g1 p ?_
   by_cases h9:l.length+q≤j
   ·rw [g2 j h9]at hcj;cases hcj
   omega
  have:=tail_get htl hil (by omega) (show l.length+q<i by omega)
  have h7:listed.getD (l.length+q) false=true:=by
   cases this with
   | one ho2 hp2=>rw [hol]at ho2;cases ho2;exact hpreds _ hp2
   | more ho2 hq2 ha=>rw [hol]at ho2;cases ho2;exact hcl.anc ha (hpreds _ hq2)
  have h8:listed.getD (l.length+q) false=false:=g2 _ (Nat.le_refl _)
  rw [h8]at h7;cases h7
 intro listed b W hs hJ hre
 have hall:∀ i,i<(l++tl).length→listed.getD i false=true:=by
  intro i
  induction i using Nat.strongRecOn with
  | ind i ih =>
   intro hi
   cases hb:listed.getD i false with
   | true=>rfl
   | false =>
    exfalso
    have hm:i∈Region.ready .any (l++tl).toArray listed:=by
     refine mem_ready.2 ⟨getD_in (by rw [hs];simpa using hi) hb,(l++tl)[i],by rw [List.getElem?_toArray];exact List.getElem?_eq_getElem hi,fun e he hbd=>?_⟩
     have:=backOk_get hback (List.getElem?_eq_getElem hi) (mem_preds.2 ⟨e,he,hbd,rfl⟩)
     rw [Nat.zero_add]at this
     exact ih e.on this (by omega)
    rw [hre]at hm
    cases hm
 rcases hJ with ⟨hcl,hno,_,hd⟩|⟨q,g1,g2,g3⟩
 ·have htn:tl=[]:=by
   cases tl with
   | nil=>rfl
   | cons x r =>
    have h7:=hall l.length (by simp)
    have h8:listed.getD l.length false=false:=hno l.length (Nat.le_refl _)
    rw [h8]at h7;cases h7
  have:=hQ _ _ (DI.post hr h3 h4 hi hd fun j hj=>hall j (by simp;omega))
  rw [htn]at this
  exact this
 have hq:tl.length≤q:=by
  by_cases h:tl.length≤q
  ·exact h
  have h7:=hall (l.length+q) (by simp;omega)
  have h8:listed.getD (l.length+q) false=false:=g2 _ (Nat.le_refl _)
  rw [h8]at h7;cases h7
 rw [List.drop_eq_nil_of_le hq]at g3
 exact g3
theorem draw_tail{rn:Option Nat}{id n:Nat}{l tl:List Oper}{ef:List Eff}{Q:Exit→Act→World→Prop}(hm:P.follows .mixedOrders=true)(hpl:PlS P E Γ rn pl ft)(he:Ev E Γ (List Eff×S) (evD pl ft (l++tl).toArray base l 0 s []) (ef,s'))(hok:okD (l++tl).toArray l ef n base=true)(htl:tailOk (l++tl) l.length=true)(hb:s.h.length≤base)
 (hi:Inv P w0 ms s α I a W) (hQ:∀ a' W',Post P w0 ms α I .normal s' .normal a' W'→wpLR rn P (l++tl).toArray Q tl a' W'):wpR rn P (Code.region id (l++tl).toArray true) Q a W:=by
 obtain⟨ss,ef',h1,h2,h3,h4,h5⟩:=evD_tr l 0 s [] ef s' he
 rw [List.nil_append]at h2
 subst h2
 have hr:Run E Γ pl ft (l++tl).toArray base l ef ss:=⟨h1,fun j o e g1 g2=>by have:=h5 j o e g1 g2;rwa [Nat.zero_add]at this⟩
 have hz:(fun i=>(Array.replicate (l++tl).toArray.size false).getD i false)=fun _=>false:=funext fun i=>getD_replicate_false _ _
 exact wpIn_region_any hm (draw_any hz.symm (fun i o _ _=>hpl o) hr h3 h4 hok htl hb hi hQ (by simp) (by rw [Array.toList_replicate];exact Nat.le_trans (List.length_filter_le _ _) (by simp)) (fun j o p _ hc _=>nomatch hc) (fun _ _=>rfl) (DI.init hr h3 hi))
def drK(op:S→Oper→M (Ex×S))(pl:Pl)(ft:Oper→List D→List Nat)(cut:Array Oper→Nat)(ops:Array Oper)(s:S):M (Ex×S) :=
 (evD pl ft ops s.h.length (ops.toList.take (cut ops)) 0 s []).bind fun r=>if okD ops (ops.toList.take (cut ops)) r.1 s.ts.length s.h.length=true∧tailOk ops.toList (ops.toList.take (cut ops)).length=true then evOps op ops (ops.toList.drop (cut ops)) r.2 else .bad 160
theorem drK_ok{rn:Option Nat}{op:S→Oper→M (Ex×S)}{cut:Array Oper→Nat}{id:Nat}{ops:Array Oper}{e:Ex}(hm:P.follows .mixedOrders=true)(hpl:PlS P E Γ rn pl ft)(hop:∀ s o e s',Ev E Γ (Ex×S) (op s o) (e,s')→OpSd P rn o s e s')(he:Ev E Γ (Ex×S) (drK op pl ft cut ops s) (e,s')):CdSd P rn (.region id ops true) s e s':=by
 intro w0 ms α I a W hi Q hQ
 unfold drK at he
 obtain⟨⟨ef,s1⟩,h1,h2⟩:=ev_bind he
 dsimp only at h2
 split at h2
 ·rename_i hc
  have hops:(ops.toList.take (cut ops)++ops.toList.drop (cut ops)).toArray=ops:=by rw [List.take_append_drop,Array.toArray_toList]
  have hl:ops.toList.take (cut ops)++ops.toList.drop (cut ops)=ops.toList:=List.take_append_drop ..
  generalize ops.toList.take (cut ops)=l at h1 hc hops hl
  generalize ops.toList.drop (cut ops)=tl at h2 hops hl
  subst hops
  refine draw_tail hm hpl h1 hc.1 (by rw [hl];exact hc.2) (Nat.le_refl _) hi fun a' W' hp=>?_
  obtain⟨α',I',g1,g2,_,g3⟩:=hp
  exact evOps_ok hop tl s1 e s' h2 w0 ms α' I' a' W' g3 Q fun x a'' W'' hp'=>hQ x a'' W'' (hp'.le g1 g2)
 cases h2
end
end Z
namespace Z
def isDefer:Oper→Bool:=fun o=>match o.op with
 | .defer _=>true
 | _=>false
noncomputable def planPl(P:Program):Pl:=fun o vs bs f=>if isDefer o=true then .bad 170 else planB P o vs bs f
def ftP:Oper→List D→List Nat:=fun o vs=>foot o.op vs
noncomputable def opP(P:Program)(s:S)(o:Oper):M (Ex×S):=if isDefer o=true then .bad 171 else
 (planB P o (o.op.operands.toList.map s.opd) ((foot o.op (o.op.operands.toList.map s.opd)).map (at_ s.h)) s.h.length).bind fun re=>match re with
  | .ok d us=>.pure (.normal,s.op o.dst d us)
  | .pan d=>.pure (.pan d,s)
section
variable {P:Program}{E:LId→LSt→M Rd1}{Γ:Cn}{w0:World}{ms:Ms}{h h':Heap}{α α' β:Al}{I I':Gh}{W W':World}{o:Oper}{a a0:Act}{s s':S}{n:Nat}{rn:Option Nat}
theorem noDefer(h:¬ isDefer o=true):∀ c,o.op≠.defer c:=fun c hc=>h (by unfold isDefer;rw [hc])
theorem planPl_ok:PlS P E Γ rn (planPl P) ftP:=by
 intro o Q vs f d us h he w0 ms α I a W hi hv hf K hK
 unfold planPl at he
 split at he
 ·cases he
 rename_i hnd
 refine operIn_of_wp (noDefer hnd) ?_
 rcases plan_ok hi hv (hf 0 (by omega)) he with ⟨d',us',hre,x,v,W',α',I',hrun,hx,hI,ha,hv',hd⟩|⟨d',v,hre,_⟩
 ·cases hre
  unfold Oper.wp
  rw [hrun]
  rcases hx with rfl|⟨rfl,rfl⟩
  ·exact hK _ _ _ _ ha hI hv' hd
  exact hK _ _ _ _ ha hI hv' hd
 cases hre
theorem opP_ok{e:Ex}(he:Ev E Γ (Ex×S) (opP P s o) (e,s')):OpSd P rn o s e s':=by
 unfold opP at he
 split at he
 ·cases he
 rename_i hnd
 exact plan_sd (noDefer hnd) he
end
end Z
section
variable {P:Program}{K:Act→World→Prop}{Q:Exit→Act→World→Prop}{a:Act}{w:World}
def markA(D:Nat)(a:Act):Act:={ a with defers:={ target:=.collected D,args:=#[] }::a.defers }
def afterR(P:Program)(Q:Exit→Act→World→Prop)(a:Act)(W:World):Option Code→Prop
 | none=>Q .normal a W
 | some c=>wpR none P c Q a W
def rangeW(w:World)(r:Loop):World:=(w.alloc (.deferred (some []))).alloc (.loop r)
theorem wpR_range{g:Operand}{ps:Array Tmp}{assign body:Code}{gf:Nat}{lb:Array Value}(hg:a.eval g=.func (.func gf) #[] lb)(eg:∀ args w,(callFunc gf args).run P w=.ok (.enter gf args) w)
 (h:∀ r:Loop,r.state=.ready→r.pending=none→r.tmps=a.tmps→r.params=ps→r.assign=assign→r.body=body→r.defers=w.heap.size →
  Calls P gf (#[.func (.yield (w.heap.size+1)) #[] #[]]++lb) (rangeW w r) fun e W=>∃ v st pe,e=.returned v∧st≠.busy∧W.heap[w.heap.size+1]?=some (.loop { r with state:=st,pending:=pe }) ∧
   afterR P Q (markA w.heap.size a) (W.putObj (w.heap.size+1) (.loop { r with state:=.exhausted,pending:=pe })) pe) :
 wpR none P (.rangeFunc g ps assign body) Q a w:=by
 refine wpIn_rangeFunc ?_
 intro fn hfn
 rw [show(FW none).round=none from rfl]
 have hc:=h ⟨.ready,none,fn,a.tmps,ps,assign,body,w.heap.size⟩ rfl rfl rfl rfl rfl rfl rfl
 obtain⟨W1,hW1⟩:∃ W1,rangeW w ⟨.ready,none,fn,a.tmps,ps,assign,body,w.heap.size⟩=W1:=⟨_,rfl⟩
 rw [hW1]at hc
 refine⟨w.heap.size+1,[{ target:=.collected w.heap.size,args:=#[] }],W1,{ target:=.fn (.func gf) lb,args:=#[.func (.yield (w.heap.size+1)) #[] #[]] },W1,gf,
  #[.func (.yield (w.heap.size+1)) #[] #[]]++lb,W1,?_,?_,?_,?_,fun h=>by simp [FW,Fence.wide]at h,?_⟩
 ·rw [← hW1];exact run_enterLoop_outer _ _ _ _ _
 ·simp only [resolve,hg]
  simp [go_sem]
 ·intro f' hf';trivial
 ·simp [invoke,go_sem,eg]
 refine CallsIn.mono (callsFW.2 hc) ?_
 intro e W hh
 obtain⟨v,st,pe,he,hst,hl,hj⟩:=hh
 subst he
 refine⟨pe,W.putObj (w.heap.size+1) (.loop ⟨.exhausted,pe,fn,a.tmps,ps,assign,body,w.heap.size⟩),?_,?_⟩
 ·exact run_endLoop hl hst
 cases pe with
 | none=>exact hj
 | some c=>exact hj
def jumpOf:Exit→Option (Option Code)
 | .normal=>some none
 | .ret=>some (some .ret)
 | .exit id=>some (some (.exit id))
 | _=>none
def roundR(l:Nat)(r:Loop)(K:Value→World→Prop)(e:Exit) (_:Act)(W:World):Prop :=
 W.heap[l]?=some (.loop { r with state:=.busy })∧match jumpOf e with
  | some pe=>K (.bool pe.isNone) (W.putObj l (.loop { r with state:=if pe.isNone then .ready else .done,pending:=pe }))
  | none=>False
def roundT(r:Loop)(args:Array Value):Array Value:=(r.params.zip args).foldl (fun tmps (t,a)=>tmps.setIfInBounds t a) r.tmps
theorem wpR_yield{q:Option Nat}{o:Oper}{f:Operand}{args:Array Operand}{ats:Array TypeId}{l:Nat}{r:Loop}{vs:Array Value}(ho:o.op=.call { callee:=.value f,args,argTypes:=ats })
 (hf:a.eval f=.func (.yield l) #[] #[]) (hargs:args.map a.eval=vs) (hl:w.heap[l]?=some (.loop r)) (hs:vs.size=r.params.size) (hst:r.state=.ready)
 (h:wpR (some l) P r.assign (Exit.then (fun a1 W1=>W1.heap[l]?=some (.loop r)∧wpR (some l) P r.body (roundR l r fun v W=>K (a.put o.dst v) W) a1 (W1.putObj l (.loop { r with state:=.busy }))) fun _ _ _=>False)
  { tmps:=roundT r vs,defers:=[] } w):o.wpIn (FW q) 0 P a w K Q:=by
 refine⟨fun _ _=>trivial,?_⟩
 rw [Oper.semAt_eq _ _ _ (by rw [ho];intro c hc;cases hc)]
 subst hargs
 unfold execOp
 simp only [ho,resolve,Deferred.ofValue,hf,invoke,Sem.run_bind,Sem.run_pure,Result.andThen_ok,Array.empty_append,Array.append_empty,run_yield hl hs,Oper.uponIn]
 refine⟨fun h=>by simp [FW,Fence.wide]at h,?_⟩
 refine roundIn_of_wpIn trivial (wpIn_mono h ?_)
 intro e a1 W1 hq
 cases e with
 | normal =>
  obtain⟨hl1,hb⟩:=hq
  refine⟨_,run_beginRound hl1 hst,wpIn_mono hb ?_⟩
  rintro e2 a2 W2 ⟨hl2,hr⟩
  cases e2 with
  | normal=>exact⟨_,_,run_endRound none hl2,hr⟩
  | ret=>exact⟨_,_,run_endRound (some .ret) hl2,hr⟩
  | exit id=>exact⟨_,_,run_endRound (some (.exit id)) hl2,hr⟩
  | goto t=>exact hr.elim
  | panic c=>exact hr.elim
  | outgrown=>exact hr.elim
 | ret=>exact hq.elim
 | exit id=>exact hq.elim
 | goto t=>exact hq.elim
 | panic c=>exact hq.elim
 | outgrown=>exact hq.elim
end
namespace Z
inductive Rs where
 | ret (d:D)|pan (d:D)
abbrev Caller:=FuncId→List D→Heap→M (Rs×Heap)
abbrev Dfr:=FuncId→List D→Option D→Heap→M Heap
def enters(P:Program)(f:FuncId):Bool:=match P.funcs[f]? with
 | some fn=>!(fn.name == "runtime.NumGoroutine") && fn.body.isSome
 | none=>false
def resM(P:Program)(s:S):List ResultVar→M (List D)
 | []=>.pure []
 | .tmp t::r=>(resM P s r).bind fun l=>.pure (s.ts.getD t .any::l)
 | .cell a t::r=>match s.ts.getD a .any with
  | .p n i q=>(ldP P t (at_ s.h n) true i q).bind fun re=>match re with
   | .ok d _=>(resM P s r).bind fun l=>.pure (d::l)
   | .pan _=>.bad 194
  | _=>.bad 195
def tupD:List D→D
 | [d]=>d
 | ds=>.tup ds
def evL(P:Program)(dfr:Dfr):List Df→Option D→Heap→M (Option D×Heap)
 | [],m,h=>.pure (m,h)
 | .mark n::r,m,h=>match at_ h n with
  | .mk=>evL P dfr r m (put h n .dead)
  | _=>.bad 196
 | .fn (.fn (.func g) fs cs)::r,m,h=>if enters P g=true then(dfr g (fs++cs) m h).bind fun h'=>evL P dfr r none h' else .bad 197
 | _::_,_,_=>.bad 198
def exMode:Ex→Option (Option D)
 | .normal|.ret=>some none
 | .pan d=>some (some d)
 | .exit _=>none
def evF(P:Program)(K:Kit)(dfr:Dfr)(f:FuncId)(args:List D)(h:Heap):M (Rs×Heap):=match P.funcs[f]? with
 | none=>.bad 190
 | some fn=>match fn.body with
  | none=>.bad 191
  | some c=>(evC K c ⟨args++List.replicate (fn.ntmps-args.length) .any,h,[]⟩).bind fun r=>match exMode r.1 with
   | none=>.bad 193
   | some m=>(evL P dfr r.2.df m r.2.h).bind fun q=>match q.1 with
    | none=>(resM P ⟨r.2.ts,q.2,[]⟩ fn.results.toList).bind fun l=>.pure (.ret (tupD l),q.2)
    | some d=>.pure (.pan d,q.2)
section
variable {P:Program}{E:LId→LSt→M Rd1}{Γ:Cn}{w0:World}{ms:Ms}{h h':Heap}{α α' β:Al}{I I':Gh}{W W':World}{o:Oper}{a a0:Act}{s s':S}{n:Nat}{rn:Option Nat}
def EndR(P:Program)(I:Gh)(α:Al):Rs→Ending→Prop
 | .ret d,.returned v=>Den (tyOf P) I α d v
 | .pan d,.panicked c=>∃ v,c=[{ v,recovered:=false }]∧Den (tyOf P) I α d v
 | _,_=>False
def ModeR(P:Program)(I:Gh)(α:Al):Option D→FrameMode→Prop
 | none,.returning=>True
 | some d,.panicking c=>∃ v,c=[{ v,recovered:=false }]∧Den (tyOf P) I α d v
 | _,_=>False
theorem ModeR.mono{m:Option D}{u:FrameMode}(h:ModeR P I α m u)(hI:LeI I I')(ha:LeA α α'):ModeR P I' α' m u:=by
 cases m with
 | none=>cases u<;>first|trivial|exact h.elim
 | some d=>cases u<;>first|exact h.elim|(obtain⟨v,h1,h2⟩:=h;exact⟨v,h1,h2.mono hI ha⟩)
theorem ModeR.run{m:Option D}{u:FrameMode}(h:ModeR P I α m u):u≠.run:=by
 rintro rfl;cases m<;>exact h.elim
def CallSd(P:Program)(f:FuncId)(args:List D)(h:Heap)(r:Rs)(h':Heap):Prop :=
 ∀ w0 ms α I W (xs:Array Value),HInv P (tyOf P) w0 ms h α I W→args.length=xs.size→(∀ (j:Nat) d x,args[j]?=some d→xs[j]?=some x→Den (tyOf P) I α d x) →
  Calls P f xs W fun e W'=>∃ α' I',LeA α α'∧LeI I I'∧HInv P (tyOf P) w0 ms h' α' I' W'∧EndR P I' α' r e
def DfrSd(P:Program)(f:FuncId)(args:List D)(m:Option D)(h:Heap)(h':Heap):Prop :=
 ∀ w0 ms α I W (xs:Array Value) (u:FrameMode),HInv P (tyOf P) w0 ms h α I W→args.length=xs.size→(∀ (j:Nat) d x,args[j]?=some d→xs[j]?=some x→Den (tyOf P) I α d x)→ModeR P I α m u →
  CallsDIn (FW none) 0 P f xs u W fun e u' W'=>∃ α' I' v,LeA α α'∧LeI I I'∧HInv P (tyOf P) w0 ms h' α' I' W'∧e=.returned v∧settle u'=.returning
def res1(tmps:Array Value):ResultVar→Sem Value
 | .tmp t=>pure (tmps.getD t undef)
 | .cell a t=>do loadVar t (← asAddr (tmps.getD a undef))
theorem results_eq(fn:Func)(tmps:Array Value):results fn tmps=(do
 let vs ← fn.results.mapM (res1 tmps)
 pure (if h:vs.size=1 then vs[0]else .tuple vs)):=rfl
theorem resM_ok(hi:Inv P w0 ms s α I a W):∀ {l:List ResultVar}{ds:List D},Ev E Γ (List D) (resM P s l) ds→∃ vs:List Value,(l.mapM (res1 a.tmps)).run P W=.ok vs W∧vs.length=ds.length∧∀ (j:Nat) d x,ds[j]?=some d→vs[j]?=some x→Den (tyOf P) I α d x
 | [],ds,h=>by cases h;exact⟨[],by simp,rfl,fun j d x h=>by simp at h⟩
 | .cell b t::r,ds,h=>by
  unfold resM at h
  split at h
  ·rename_i n i q hb
   obtain⟨re,h1,h2⟩:=ev_bind h
   have hD:Den (tyOf P) I α (s.ts.getD b .any) (a.tmps.getD b undef):=hi.opd (.tmp b)
   rw [hb]at hD
   generalize hx:a.tmps.getD b undef=x at hD
   cases hD with
   | p hr =>
    obtain⟨d,v,rfl,h3,h4⟩:=ldv_ok hi.hv hr h1
    dsimp only at h2
    obtain⟨l,h5,h6⟩:=ev_bind h2
    have:=ev_pure_eq h6
    subst this
    obtain⟨vs,g1,g2,g3⟩:=resM_ok hi h5
    refine⟨v::vs,?_,by simp [g2],fun j d' x q1 q2=>?_⟩
    ·simp only [List.mapM_cons,Sem.run_bind,res1,hx,asAddr,Sem.run_pure,Result.andThen_ok,h3,g1]
    cases j with
    | zero =>
     obtain rfl:d=d':=by simpa using q1
     obtain rfl:v=x:=by simpa using q2
     exact h4
    | succ j=>exact g3 j d' x (by simpa using q1) (by simpa using q2)
  cases h
 | .tmp t::r,ds,h=>by
  unfold resM at h
  obtain⟨l,h5,h6⟩:=ev_bind h
  have:=ev_pure_eq h6
  subst this
  obtain⟨vs,h1,h2,h3⟩:=resM_ok hi h5
  refine⟨a.tmps.getD t undef::vs,?_,by simp [h2],fun j d x g1 g2=>?_⟩
  ·simp only [List.mapM_cons,Sem.run_bind,res1,Sem.run_pure,Result.andThen_ok,h1]
  cases j with
  | zero =>
   obtain rfl:s.ts.getD t .any=d:=by simpa using g1
   obtain rfl:a.tmps.getD t undef=x:=by simpa using g2
   exact hi.opd (.tmp t)
  | succ j=>exact h3 j d x (by simpa using g1) (by simpa using g2)
theorem resD_ok(hi:Inv P w0 ms s α I a W){fn:Func}{l:List D}(h:Ev E Γ (List D) (resM P s fn.results.toList) l):∃ v,(results fn a.tmps).run P W=.ok v W∧Den (tyOf P) I α (tupD l) v:=by
 rw [results_eq,Array.mapM_eq_mapM_toList]
 obtain⟨vs,h1,h2,h3⟩:=resM_ok hi h
 unfold tupD
 split
 ·obtain⟨x,rfl⟩:∃ x,vs=[x]:=by
   match vs,h2 with
   | [x],_=>exact⟨x,rfl⟩
  refine⟨x,?_,h3 0 _ _ rfl rfl⟩
  simp only [map_eq_pure_bind,bind_assoc,pure_bind,Sem.run_bind,h1,Result.andThen_ok,Sem.run_pure]
  simp
 rename_i ds hne
 refine⟨.tuple vs.toArray,?_,.tup (by simp [h2]) fun j d x g1 g2=>h3 j d x g1 (by simpa using g2)⟩
 simp only [map_eq_pure_bind,bind_assoc,pure_bind,Sem.run_bind,h1,Result.andThen_ok,Sem.run_pure]
 have hl:¬ vs.toArray.size=1:=by
  simp only [List.size_toArray,h2]
  intro h1
  obtain⟨v,hv⟩:=List.length_eq_one_iff.1 h1
  exact hne v hv
 rw [dif_neg hl]
theorem Stp.putObj(W:World)(b:Nat)(o:Obj):Stp [b] W (W.putObj b o) :=
 ⟨rfl,rfl,rfl,by simp [World.putObj],fun k hk hn=>by
  have:b≠k:=fun e=>hn (by simp [e])
  simp [World.putObj,Array.getElem?_setIfInBounds_ne this]⟩
theorem cell_none{b:Nat}{o:Obj}(h:W.heap[b]?=some o)(ho:∀ c t k,o≠.cells c t k)(q:Nat):W.cell? ⟨b,q,none⟩=none:=by
 unfold World.cell?
 rw [h]
 cases o<;>first|rfl|exact absurd rfl (ho _ _ _)
theorem HInv.reobj(hi:HInv P (tyOf P) w0 ms h α I W){n:Nat}{B:Blk}{r:Reg}{o o':Obj}(hr:α n=some r)(hv:r.v=false)(hl:(at_ h n).live=true)(hb:W.heap[r.b]?=some o)(ho:∀ c t k,o≠.cells c t k)(hB:B≠.non)(hBt:∀ t,B≠.tip t)(hrep:Rep P (tyOf P) I α (W.putObj r.b o') r B):HInv P (tyOf P) w0 ms (put h n B) α I (W.putObj r.b o') :=
 hi.reput hr hv hl (.putObj ..) (fun q=>by
  cases hq:I r.b q with
  | none=>rfl
  | some x =>
   have:=hi.gh _ _ _ hq
   rw [cell_none hb ho]at this
   cases this) hB hBt hrep
theorem enters_run{f:FuncId}(h:enters P f=true)(args:Array Value)(W:World):(callFunc f args).run P W=.ok (.enter f args) W:=by
 unfold enters at h
 split at h
 ·rename_i fn hf
  simp only [Bool.and_eq_true,Bool.not_eq_true']at h
  have h1:¬ fn.name = "runtime.NumGoroutine" := by simpa using h.1
  obtain⟨c,hc⟩:=Option.isSome_iff_exists.1 h.2
  simp [callFunc,hf,h1,hc]
 cases h
theorem evL_ok{dfr:Dfr}(hdfr:∀ g args m h h',Ev E Γ Heap (dfr g args m h) h'→DfrSd P g args m h h'){fn:Func}{tmps:Array Value}{R:Ending→World→Prop}:∀ (l:List Df)(m:Option D)(h:Heap)(m':Option D)(h':Heap),Ev E Γ (Option D×Heap) (evL P dfr l m h) (m',h') →
 ∀ w0 ms α I W (u:FrameMode) (ds:List Deferred),HInv P (tyOf P) w0 ms h α I W→l.length=ds.length→(∀ (j:Nat) f d,l[j]?=some f→ds[j]?=some d→DfR P I α f d)→ModeR P I α m u →
 (∀ α' I' W' u',LeA α α'→LeI I I'→HInv P (tyOf P) w0 ms h' α' I' W'→ModeR P I' α' m' u'→LeavesInM (FW none) 0 P fn tmps R [] u' W')→LeavesInM (FW none) 0 P fn tmps R ds u W
 | [],m,h,m',h',he,w0,ms,α,I,W,u,[],hi,_,_,hm,hk=>by
  cases he
  exact hk α I W u (.refl _) (.refl _) hi hm
 | [],m,h,m',h',he,w0,ms,α,I,W,u,_::_,hi,hl,_,hm,hk=>nomatch hl
 | _::_,m,h,m',h',he,w0,ms,α,I,W,u,[],hi,hl,_,hm,hk=>nomatch hl
 | f::r,m,h,m',h',he,w0,ms,α,I,W,u,d::ds,hi,hl,hd,hm,hk=>by
  have hd0:=hd 0 f d rfl rfl
  have hdr:∀ (j:Nat) f d,r[j]?=some f→ds[j]?=some d→DfR P I α f d:=fun j f d h1 h2=>hd (j+1) f d (by simpa using h1) (by simpa using h2)
  have hlr:r.length=ds.length:=by simpa using hl
  cases f with
  | mark n =>
   have he:Ev E Γ (Option D×Heap) (match at_ h n with
    | .mk=>evL P dfr r m (put h n .dead)
    | _=>.bad 196) (m',h'):=he
   split at he
   ·rename_i hmk
    obtain⟨rg,h1,rfl⟩:=hd0
    obtain⟨rg',h2,_,h3⟩:=hi.liv n (by rw [hmk];rfl)
    rw [h1]at h2;obtain rfl:=Option.some.inj h2
    rw [hmk]at h3
    obtain⟨hv,hb⟩:=h3
    have hi':=hi.reobj (B:=.dead) (o':=.deferred none) h1 hv (by rw [hmk];rfl) hb (by intro c t k;exact fun h=>nomatch h) (fun h=>nomatch h) (fun _ h=>nomatch h) trivial
    exact⟨hm.run,.inl ⟨rg.b,_,rfl,run_takeDeferred hb,evL_ok hdfr r m _ m' h' he w0 ms α I _ u ds hi' hlr hdr hm hk⟩⟩
   cases he
  | fn d0 =>
   obtain⟨fn',first,cap,rfl,hD⟩:=hd0
   cases hD with
   | @fn _ _ fs cs _ _ ha hb hx hy =>
    cases fn' with
    | func g =>
     have he:Ev E Γ (Option D×Heap) (if enters P g=true then(dfr g (fs++cs) m h).bind fun h'=>evL P dfr r none h' else .bad 197) (m',h'):=he
     split at he
     ·rename_i hen
      obtain⟨h1,g1,g2⟩:=ev_bind he
      refine⟨hm.run,.inr ⟨fun h=>by simp [FW,Fence.wide]at h,_,_,g,first++cap,rfl,?_,fun _ _=>trivial,?_⟩⟩
      ·show(callFunc g (first++cap)).run P W=_
       exact enters_run hen _ _
      refine CallsDIn.mono (hdfr g _ m h h1 g1 w0 ms α I W (first++cap) u hi (by simp [ha,hb]) (fun j d x q1 q2=>?_) hm) fun e u' W' hh=>?_
      ·by_cases hj:j<fs.length
       ·rw [List.getElem?_append_left hj]at q1
        rw [Array.getElem?_append_left (by omega)]at q2
        exact hx j d x q1 q2
       rw [List.getElem?_append_right (by omega)]at q1
       rw [Array.getElem?_append_right (by omega),← ha]at q2
       exact hy _ d x q1 q2
      obtain⟨α',I',v,f1,f2,f3,rfl,f4⟩:=hh
      dsimp only
      rw [f4]
      exact evL_ok hdfr r none h1 m' h' g2 w0 ms α' I' W' .returning ds f3 hlr (fun j f d q1 q2=>(hdr j f d q1 q2).mono f2 f1) trivial fun α'' I'' W'' u'' k1 k2=>hk α'' I'' W'' u'' (f1.trans k1) (f2.trans k2)
     cases he
    | _=>cases he
   | _=>cases he
theorem evF_ok{K:Kit}{G:Code→Prop}{dfr:Dfr}{f:FuncId}{fn:Func}{c:Code}{args:List D}{r:Rs}(hK:K.Ok P E Γ G none)(hdfr:∀ g args m h h',Ev E Γ Heap (dfr g args m h) h'→DfrSd P g args m h h')(hf:P.funcs[f]?=some fn)(hc:fn.body=some c)(hG:AllL G c)(he:Ev E Γ (Rs×Heap) (evF P K dfr f args h) (r,h')):CallSd P f args h r h':=by
 unfold evF at he
 rw [hf]at he
 dsimp only at he
 rw [hc]at he
 dsimp only at he
 obtain⟨⟨e,s1⟩,h1,h2⟩:=ev_bind he
 dsimp only at h2
 cases hr:exMode e with
 | none=>rw [hr]at h2;cases h2
 | some m =>
  rw [hr]at h2
  dsimp only at h2
  obtain⟨⟨m',hq⟩,g1,g2⟩:=ev_bind h2
  dsimp only at g2
  intro w0 ms α I W xs hi hl hx
  refine callsFW.1 (callsIn_of_wp_marks (F:=FW none) (n:=0) hf hc trivial (evC_ok hK c _ e s1 hG h1 w0 ms α I _ W ⟨hi,by simp [hl],fun t d x g1 g2=>?_,rfl,fun j f d g1 g2=>by simp at g1⟩ _ fun x a' W' hp=>?_) rfl)
  ·by_cases ht:t<args.length
   ·have g1:(args++List.replicate (fn.ntmps-args.length) D.any)[t]?=some d:=g1
    have g2:(xs++Array.replicate (fn.ntmps-xs.size) undef)[t]?=some x:=g2
    rw [List.getElem?_append_left ht]at g1
    rw [Array.getElem?_append_left (by omega)]at g2
    exact hx t d x g1 g2
   have g1:(args++List.replicate (fn.ntmps-args.length) D.any)[t]?=some d:=g1
   rw [List.getElem?_append_right (by omega),List.getElem?_replicate]at g1
   split at g1
   ·cases g1;exact .any
   cases g1
  obtain⟨α',I',f1,f2,f3,f4⟩:=hp
  have key:∀ u,ModeR P I' α' m u→LeavesInM (FW none) 0 P fn a'.tmps (fun e W'=>∃ α' I',LeA α α'∧LeI I I'∧HInv P (tyOf P) w0 ms h' α' I' W'∧EndR P I' α' r e) a'.defers u W':=fun u hu=>by
   refine evL_ok hdfr s1.df m s1.h m' hq g1 w0 ms α' I' W' u a'.defers f4.hv f4.dn f4.df hu fun α'' I'' W'' u' k1 k2 k3 k4=>?_
   have hin:Inv P w0 ms (⟨s1.ts,hq,[]⟩:S) α'' I'' { a' with defers:=[] } W'':=⟨k3,f4.tn,fun t d x q1 q2=>(f4.ts t d x q1 q2).mono k2 k1,rfl,fun j f d q1 q2=>by simp at q1⟩
   cases m' with
   | none =>
    dsimp only at g2
    obtain⟨l,q1,q2⟩:=ev_bind g2
    have:=ev_pure_eq q2
    cases this
    cases u' with
    | returning =>
     obtain⟨v,hv,hd⟩:=resD_ok hin q1
     exact⟨v,hv,α'',I'',f1.trans k1,f2.trans k2,k3,hd⟩
    | _=>exact k4.elim
   | some d =>
    have:=ev_pure_eq g2
    cases this
    cases u' with
    | panicking ch =>
     obtain⟨v,rfl,hd⟩:=k4
     exact⟨α'',I'',f1.trans k1,f2.trans k2,k3,v,rfl,hd⟩
    | _=>exact k4.elim
  cases e with
  | normal =>
   cases hr
   cases x<;>first|exact key _ trivial|exact f3.elim
  | ret =>
   cases hr
   cases x<;>first|exact key _ trivial|exact f3.elim
  | exit i=>cases hr
  | pan d =>
   cases hr
   cases x<;>first|exact key _ f3|exact f3.elim
end
end Z
end Go.Proofs.YtmgcclhbbhbmcaaGreat
