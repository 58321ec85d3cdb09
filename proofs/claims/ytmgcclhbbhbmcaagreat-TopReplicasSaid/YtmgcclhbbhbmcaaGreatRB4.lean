/-
  Texts behind the statement, part 4.
-/
import Derived.Test.YtmgcclhbbhbmcaaGreatRB3
set_option linter.unusedSimpArgs false
set_option linter.unusedVariables false
namespace Go.Proofs.YtmgcclhbbhbmcaaGreat
open Go Go.RowKit
namespace Z
abbrev z0:D:=.k (.int .u8 0)
abbrev bw (x:Int) (s:Nat):D:=u8 (IntKind.wrap .u8 (Int.fdiv x ((2:Int) ^ s)))
noncomputable def cEs:Cf:={ cff (fun _=>12) [92] [] [] [] []with base:=cons PP [⟨92,[.one (.sl 5)],.one (.one (.i .u32))⟩] }
theorem t_es(g n k:Int)(b:List D):callR cEs [69,91] 69 [.v (.int .u64 g),iv n,.v (.int .u8 k),sl 5 b]=(M.get (zr 128 z0) (nI 3) fun d0=>M.get (List.set (zr 128 z0) 3 (bw g 0)) (nI 2) fun d1=>M.get (List.set (List.set (zr 128 z0) 3 (bw g 0)) 2 (bw g 8)) (nI 1) fun d2=>M.get (List.set (List.set (List.set (zr 128 z0) 3 (bw g 0)) 2 (bw g 8)) 1 (bw g 16)) (nI 0) fun d3=>M.get (List.set (List.set (List.set (List.set (zr 128 z0) 3 (bw g 0)) 2 (bw g 8)) 1 (bw g 16)) 0 (bw g 24)) (nI 9) fun d4=>M.get (List.set (List.set (List.set (List.set (List.set (zr 128 z0) 3 (bw g 0)) 2 (bw g 8)) 1 (bw g 16)) 0 (bw g 24)) 9 (bw (IntKind.wrap IntKind.u64 n) 0)) (nI 8) fun d5=>M.get (List.set (List.set (List.set (List.set (List.set (List.set (zr 128 z0) 3 (bw g 0)) 2 (bw g 8)) 1 (bw g 16)) 0 (bw g 24)) 9 (bw (IntKind.wrap IntKind.u64 n) 0)) 8 (bw (IntKind.wrap IntKind.u64 n) 8)) (nI 10) fun d6=>M.get (List.set (List.set (List.set (List.set (List.set (List.set (List.set (zr 128 z0) 3 (bw g 0)) 2 (bw g 8)) 1 (bw g 16)) 0 (bw g 24)) 9 (bw (IntKind.wrap IntKind.u64 n) 0)) 8 (bw (IntKind.wrap IntKind.u64 n) 8)) 10 (D.v (Value.int IntKind.u8 k))) (nI 11) fun d7=>M.get (List.take 12 (List.set (List.set (List.set (List.set (List.set (List.set (List.set (List.set (zr 128 z0) 3 (bw g 0)) 2 (bw g 8)) 1 (bw g 16)) 0 (bw g 24)) 9 (bw (IntKind.wrap IntKind.u64 n) 0)) 8 (bw (IntKind.wrap IntKind.u64 n) 8)) 10 (D.v (Value.int IntKind.u8 k))) 11 (D.v (Value.int IntKind.u8 (IntKind.wrap IntKind.u8 (nI (List.length b))))))++List.take (min 116 (List.length b)) b++List.drop (12+min 116 (List.length b)) (List.set (List.set (List.set (List.set (List.set (List.set (List.set (List.set (zr 128 z0) 3 (bw g 0)) 2 (bw g 8)) 1 (bw g 16)) 0 (bw g 24)) 9 (bw (IntKind.wrap IntKind.u64 n) 0)) 8 (bw (IntKind.wrap IntKind.u64 n) 8)) 10 (D.v (Value.int IntKind.u8 k))) 11 (D.v (Value.int IntKind.u8 (IntKind.wrap IntKind.u8 (nI (List.length b))))))) (nI 127) fun d8=>M.get (List.set (List.take 12 (List.set (List.set (List.set (List.set (List.set (List.set (List.set (List.set (zr 128 z0) 3 (bw g 0)) 2 (bw g 8)) 1 (bw g 16)) 0 (bw g 24)) 9 (bw (IntKind.wrap IntKind.u64 n) 0)) 8 (bw (IntKind.wrap IntKind.u64 n) 8)) 10 (D.v (Value.int IntKind.u8 k))) 11 (D.v (Value.int IntKind.u8 (IntKind.wrap IntKind.u8 (nI (List.length b))))))++List.take (min 116 (List.length b)) b++List.drop (12+min 116 (List.length b)) (List.set (List.set (List.set (List.set (List.set (List.set (List.set (List.set (zr 128 z0) 3 (bw g 0)) 2 (bw g 8)) 1 (bw g 16)) 0 (bw g 24)) 9 (bw (IntKind.wrap IntKind.u64 n) 0)) 8 (bw (IntKind.wrap IntKind.u64 n) 8)) 10 (D.v (Value.int IntKind.u8 k))) 11 (D.v (Value.int IntKind.u8 (IntKind.wrap IntKind.u8 (nI (List.length b))))))) 127 (bw g 0)) (nI 126) fun d9=>M.get (List.set (List.set (List.take 12 (List.set (List.set (List.set (List.set (List.set (List.set (List.set (List.set (zr 128 z0) 3 (bw g 0)) 2 (bw g 8)) 1 (bw g 16)) 0 (bw g 24)) 9 (bw (IntKind.wrap IntKind.u64 n) 0)) 8 (bw (IntKind.wrap IntKind.u64 n) 8)) 10 (D.v (Value.int IntKind.u8 k))) 11 (D.v (Value.int IntKind.u8 (IntKind.wrap IntKind.u8 (nI (List.length b))))))++List.take (min 116 (List.length b)) b++List.drop (12+min 116 (List.length b)) (List.set (List.set (List.set (List.set (List.set (List.set (List.set (List.set (zr 128 z0) 3 (bw g 0)) 2 (bw g 8)) 1 (bw g 16)) 0 (bw g 24)) 9 (bw (IntKind.wrap IntKind.u64 n) 0)) 8 (bw (IntKind.wrap IntKind.u64 n) 8)) 10 (D.v (Value.int IntKind.u8 k))) 11 (D.v (Value.int IntKind.u8 (IntKind.wrap IntKind.u8 (nI (List.length b))))))) 127 (bw g 0)) 126 (bw g 8)) (nI 125) fun d10=>M.get (List.set (List.set (List.set (List.take 12 (List.set (List.set (List.set (List.set (List.set (List.set (List.set (List.set (zr 128 z0) 3 (bw g 0)) 2 (bw g 8)) 1 (bw g 16)) 0 (bw g 24)) 9 (bw (IntKind.wrap IntKind.u64 n) 0)) 8 (bw (IntKind.wrap IntKind.u64 n) 8)) 10 (D.v (Value.int IntKind.u8 k))) 11 (D.v (Value.int IntKind.u8 (IntKind.wrap IntKind.u8 (nI (List.length b))))))++List.take (min 116 (List.length b)) b++List.drop (12+min 116 (List.length b)) (List.set (List.set (List.set (List.set (List.set (List.set (List.set (List.set (zr 128 z0) 3 (bw g 0)) 2 (bw g 8)) 1 (bw g 16)) 0 (bw g 24)) 9 (bw (IntKind.wrap IntKind.u64 n) 0)) 8 (bw (IntKind.wrap IntKind.u64 n) 8)) 10 (D.v (Value.int IntKind.u8 k))) 11 (D.v (Value.int IntKind.u8 (IntKind.wrap IntKind.u8 (nI (List.length b))))))) 127 (bw g 0)) 126 (bw g 8)) 125 (bw g 16)) (nI 124) fun d11=>M.call 92 [D.sl false 5 (List.take 116 (List.drop 8 (List.set (List.set (List.set (List.set (List.take 12 (List.set (List.set (List.set (List.set (List.set (List.set (List.set (List.set (zr 128 z0) 3 (bw g 0)) 2 (bw g 8)) 1 (bw g 16)) 0 (bw g 24)) 9 (bw (IntKind.wrap IntKind.u64 n) 0)) 8 (bw (IntKind.wrap IntKind.u64 n) 8)) 10 (D.v (Value.int IntKind.u8 k))) 11 (D.v (Value.int IntKind.u8 (IntKind.wrap IntKind.u8 (nI (List.length b))))))++List.take (min 116 (List.length b)) b++List.drop (12+min 116 (List.length b)) (List.set (List.set (List.set (List.set (List.set (List.set (List.set (List.set (zr 128 z0) 3 (bw g 0)) 2 (bw g 8)) 1 (bw g 16)) 0 (bw g 24)) 9 (bw (IntKind.wrap IntKind.u64 n) 0)) 8 (bw (IntKind.wrap IntKind.u64 n) 8)) 10 (D.v (Value.int IntKind.u8 k))) 11 (D.v (Value.int IntKind.u8 (IntKind.wrap IntKind.u8 (nI (List.length b))))))) 127 (bw g 0)) 126 (bw g 8)) 125 (bw g 16)) 124 (bw g 24)))) Tok.non] [] fun d12 o12=>M.get (List.set (List.set (List.set (List.set (List.take 12 (List.set (List.set (List.set (List.set (List.set (List.set (List.set (List.set (zr 128 z0) 3 (bw g 0)) 2 (bw g 8)) 1 (bw g 16)) 0 (bw g 24)) 9 (bw (IntKind.wrap IntKind.u64 n) 0)) 8 (bw (IntKind.wrap IntKind.u64 n) 8)) 10 (D.v (Value.int IntKind.u8 k))) 11 (D.v (Value.int IntKind.u8 (IntKind.wrap IntKind.u8 (nI (List.length b))))))++List.take (min 116 (List.length b)) b++List.drop (12+min 116 (List.length b)) (List.set (List.set (List.set (List.set (List.set (List.set (List.set (List.set (zr 128 z0) 3 (bw g 0)) 2 (bw g 8)) 1 (bw g 16)) 0 (bw g 24)) 9 (bw (IntKind.wrap IntKind.u64 n) 0)) 8 (bw (IntKind.wrap IntKind.u64 n) 8)) 10 (D.v (Value.int IntKind.u8 k))) 11 (D.v (Value.int IntKind.u8 (IntKind.wrap IntKind.u8 (nI (List.length b))))))) 127 (bw g 0)) 126 (bw g 8)) 125 (bw g 16)) 124 (bw g 24)) (nI 7) fun d13=>M.get (List.set (List.set (List.set (List.set (List.set (List.take 12 (List.set (List.set (List.set (List.set (List.set (List.set (List.set (List.set (zr 128 z0) 3 (bw g 0)) 2 (bw g 8)) 1 (bw g 16)) 0 (bw g 24)) 9 (bw (IntKind.wrap IntKind.u64 n) 0)) 8 (bw (IntKind.wrap IntKind.u64 n) 8)) 10 (D.v (Value.int IntKind.u8 k))) 11 (D.v (Value.int IntKind.u8 (IntKind.wrap IntKind.u8 (nI (List.length b))))))++List.take (min 116 (List.length b)) b++List.drop (12+min 116 (List.length b)) (List.set (List.set (List.set (List.set (List.set (List.set (List.set (List.set (zr 128 z0) 3 (bw g 0)) 2 (bw g 8)) 1 (bw g 16)) 0 (bw g 24)) 9 (bw (IntKind.wrap IntKind.u64 n) 0)) 8 (bw (IntKind.wrap IntKind.u64 n) 8)) 10 (D.v (Value.int IntKind.u8 k))) 11 (D.v (Value.int IntKind.u8 (IntKind.wrap IntKind.u8 (nI (List.length b))))))) 127 (bw g 0)) 126 (bw g 8)) 125 (bw g 16)) 124 (bw g 24)) 7 (bw (IntKind.wrap IntKind.u64 (D.int d12)) 0)) (nI 6) fun d14=>M.get (List.set (List.set (List.set (List.set (List.set (List.set (List.take 12 (List.set (List.set (List.set (List.set (List.set (List.set (List.set (List.set (zr 128 z0) 3 (bw g 0)) 2 (bw g 8)) 1 (bw g 16)) 0 (bw g 24)) 9 (bw (IntKind.wrap IntKind.u64 n) 0)) 8 (bw (IntKind.wrap IntKind.u64 n) 8)) 10 (D.v (Value.int IntKind.u8 k))) 11 (D.v (Value.int IntKind.u8 (IntKind.wrap IntKind.u8 (nI (List.length b))))))++List.take (min 116 (List.length b)) b++List.drop (12+min 116 (List.length b)) (List.set (List.set (List.set (List.set (List.set (List.set (List.set (List.set (zr 128 z0) 3 (bw g 0)) 2 (bw g 8)) 1 (bw g 16)) 0 (bw g 24)) 9 (bw (IntKind.wrap IntKind.u64 n) 0)) 8 (bw (IntKind.wrap IntKind.u64 n) 8)) 10 (D.v (Value.int IntKind.u8 k))) 11 (D.v (Value.int IntKind.u8 (IntKind.wrap IntKind.u8 (nI (List.length b))))))) 127 (bw g 0)) 126 (bw g 8)) 125 (bw g 16)) 124 (bw g 24)) 7 (bw (IntKind.wrap IntKind.u64 (D.int d12)) 0)) 6 (bw (IntKind.wrap IntKind.u64 (D.int d12)) 8)) (nI 5) fun d15=>M.get (List.set (List.set (List.set (List.set (List.set (List.set (List.set (List.take 12 (List.set (List.set (List.set (List.set (List.set (List.set (List.set (List.set (zr 128 z0) 3 (bw g 0)) 2 (bw g 8)) 1 (bw g 16)) 0 (bw g 24)) 9 (bw (IntKind.wrap IntKind.u64 n) 0)) 8 (bw (IntKind.wrap IntKind.u64 n) 8)) 10 (D.v (Value.int IntKind.u8 k))) 11 (D.v (Value.int IntKind.u8 (IntKind.wrap IntKind.u8 (nI (List.length b))))))++List.take (min 116 (List.length b)) b++List.drop (12+min 116 (List.length b)) (List.set (List.set (List.set (List.set (List.set (List.set (List.set (List.set (zr 128 z0) 3 (bw g 0)) 2 (bw g 8)) 1 (bw g 16)) 0 (bw g 24)) 9 (bw (IntKind.wrap IntKind.u64 n) 0)) 8 (bw (IntKind.wrap IntKind.u64 n) 8)) 10 (D.v (Value.int IntKind.u8 k))) 11 (D.v (Value.int IntKind.u8 (IntKind.wrap IntKind.u8 (nI (List.length b))))))) 127 (bw g 0)) 126 (bw g 8)) 125 (bw g 16)) 124 (bw g 24)) 7 (bw (IntKind.wrap IntKind.u64 (D.int d12)) 0)) 6 (bw (IntKind.wrap IntKind.u64 (D.int d12)) 8)) 5 (bw (IntKind.wrap IntKind.u64 (D.int d12)) 16)) (nI 4) fun d16=>M.pure (Rs.ret (D.sl false 5 (List.take 128 (List.drop 0 (List.set (List.set (List.set (List.set (List.set (List.set (List.set (List.set (List.take 12 (List.set (List.set (List.set (List.set (List.set (List.set (List.set (List.set (zr 128 z0) 3 (bw g 0)) 2 (bw g 8)) 1 (bw g 16)) 0 (bw g 24)) 9 (bw (IntKind.wrap IntKind.u64 n) 0)) 8 (bw (IntKind.wrap IntKind.u64 n) 8)) 10 (D.v (Value.int IntKind.u8 k))) 11 (D.v (Value.int IntKind.u8 (IntKind.wrap IntKind.u8 (nI (List.length b))))))++List.take (min 116 (List.length b)) b++List.drop (12+min 116 (List.length b)) (List.set (List.set (List.set (List.set (List.set (List.set (List.set (List.set (zr 128 z0) 3 (bw g 0)) 2 (bw g 8)) 1 (bw g 16)) 0 (bw g 24)) 9 (bw (IntKind.wrap IntKind.u64 n) 0)) 8 (bw (IntKind.wrap IntKind.u64 n) 8)) 10 (D.v (Value.int IntKind.u8 k))) 11 (D.v (Value.int IntKind.u8 (IntKind.wrap IntKind.u8 (nI (List.length b))))))) 127 (bw g 0)) 126 (bw g 8)) 125 (bw g 16)) 124 (bw g 24)) 7 (bw (IntKind.wrap IntKind.u64 (D.int d12)) 0)) 6 (bw (IntKind.wrap IntKind.u64 (D.int d12)) 8)) 5 (bw (IntKind.wrap IntKind.u64 (D.int d12)) 16)) 4 (bw (IntKind.wrap IntKind.u64 (D.int d12)) 24)))) Tok.non))):=by kernel_rfl
abbrev by4 (x:Int):List D:=[bw x 24,bw x 16,bw x 8,bw x 0]
abbrev hd12 (g n k:Int) (b:List D) (c:List D):List D:=bw g 24::bw g 16::bw g 8::bw g 0::c++[bw (IntKind.wrap .u64 n) 8,bw (IntKind.wrap .u64 n) 0,u8 k,u8 (IntKind.wrap .u8 (nI (List.length b)))]
theorem get_skip{E:LId→LSt→M Rd1}{Γ:Cn}{β:Type}{Q:β→Prop}{l:List D}{i:Nat}{m:M β}(h:i<l.length)(hm:Wp E Γ m Q):Wp E Γ (.get l (nI i) fun _=>m) Q:=⟨Int.natCast_nonneg _,_,by rw [Int.toNat_natCast];exact List.getElem?_eq_getElem h,hm⟩
theorem es8(g n k:Int)(b:List D):(List.set (List.set (List.set (List.set (List.set (List.set (List.set (List.set (zr 128 z0) 3 (bw g 0)) 2 (bw g 8)) 1 (bw g 16)) 0 (bw g 24)) 9 (bw (IntKind.wrap .u64 n) 0)) 8 (bw (IntKind.wrap .u64 n) 8)) 10 (u8 k)) 11 (u8 (IntKind.wrap .u8 (nI (List.length b)))))=hd12 g n k b [z0,z0,z0,z0]++List.replicate 116 z0:=by
 rw [zr_eq];rfl
theorem es_tail(b:List D)(hb:b.length≤112)(H:List D)(hH:H.length=12):List.take 12 (H++List.replicate 116 z0)++List.take (min 116 (List.length b)) b++List.drop (12+min 116 (List.length b)) (H++List.replicate 116 z0)=(H++b++List.replicate (112-b.length) z0)++[z0,z0,z0,z0]:=by
 rw [Nat.min_eq_right (by omega),List.take_length,List.take_append_of_le_length (by omega),List.take_of_length_le (by omega),← hH,← List.drop_drop,List.drop_left,List.drop_replicate,show 116-b.length=(112-b.length)+4 by omega,← List.replicate_append_replicate]
 simp [List.append_assoc]
theorem es4(g:Int)(Y:List D)(hY:Y.length=124):(List.set (List.set (List.set (List.set (Y++[z0,z0,z0,z0]) 127 (bw g 0)) 126 (bw g 8)) 125 (bw g 16)) 124 (bw g 24))=Y++[bw g 24,bw g 16,bw g 8,bw g 0]:=by
 rw [List.set_append_right (h:=by omega),List.set_append_right (h:=by omega),List.set_append_right (h:=by omega),List.set_append_right (h:=by omega),hY]
 rfl
theorem es7(g n k c:Int)(b R T:List D):(List.set (List.set (List.set (List.set (hd12 g n k b [z0,z0,z0,z0]++b++R++T) 7 (bw (IntKind.wrap .u64 c) 0)) 6 (bw (IntKind.wrap .u64 c) 8)) 5 (bw (IntKind.wrap .u64 c) 16)) 4 (bw (IntKind.wrap .u64 c) 24))=hd12 g n k b (by4 (IntKind.wrap .u64 c))++b++R++T:=rfl
def bodyS(n k:Int)(b:List D):List D:=[bw (IntKind.wrap .u64 n) 8,bw (IntKind.wrap .u64 n) 0,u8 k,u8 (IntKind.wrap .u8 (nI (List.length b)))]++b++List.replicate (112-b.length) (u8 0)
def encS(g n k:Int)(b:List D):List D:=by4 g++by4 (IntKind.wrap .u64 (crc (bodyS n k b)))++bodyS n k b++by4 g
theorem crB_vv(n:Int)(d:D):crB n d.vv=crB n d:=by
 unfold crB
 have:D.int d.vv=D.int d:=by
  cases d with
  | k x=>cases x<;>rfl
  | _=>rfl
 rw [this]
theorem crc_vv(l:List D):crc (l.map D.vv)=crc l:=by
 unfold crc
 have:∀ (l:List D) (x:Int),(l.map D.vv).foldl crB x=l.foldl crB x:=fun l=>by
  induction l with
  | nil=>intro x;rfl
  | cons d l ih=>intro x;rw [List.map_cons,List.foldl_cons,List.foldl_cons,crB_vv,ih]
 rw [this]
theorem es_ok(g n k:Int)(b:List D)(hb:b.length≤112)(hv:b.map D.vv=b)(h:Heap):CallSd PP 69 [.v (.int .u64 g),iv n,u8 k,sl 5 b] h (.ret (sl 5 (encS g n k b))) h:=by
 refine con_of (E:=E0) (Γ:=consΓ [conSum]) (C:=cEs) (l:=[69,91]) (.one (.one (.sl 5))) (show CallOk PP E0 (consΓ [conSum]) (cons PP [⟨92,[.one (.sl 5)],.one (.one (.i .u32))⟩]) from cons_ok rfl) (named_free (fun f t c s=>rfl) (List.all_eq_true.1 (by kernel_rfl:[69,91].all freeB=true))) rfl rfl rfl (to_wp ?_) h
 rw [t_es]
 have hz:(zr 128 z0).length=128:=by rw [zr_eq,List.length_replicate]
 refine get_skip (by(try simp only [List.length_set]);rw [hz];decide) ?_
 refine get_skip (by(try simp only [List.length_set]);rw [hz];decide) ?_
 refine get_skip (by(try simp only [List.length_set]);rw [hz];decide) ?_
 refine get_skip (by(try simp only [List.length_set]);rw [hz];decide) ?_
 refine get_skip (by(try simp only [List.length_set]);rw [hz];decide) ?_
 refine get_skip (by(try simp only [List.length_set]);rw [hz];decide) ?_
 refine get_skip (by(try simp only [List.length_set]);rw [hz];decide) ?_
 refine get_skip (by(try simp only [List.length_set]);rw [hz];decide) ?_
 rw [es8,es_tail b hb _ rfl]
 have hY:(hd12 g n k b [z0,z0,z0,z0]++b++List.replicate (112-b.length) z0).length=124:=by
  rw [List.length_append,List.length_append,List.length_replicate]
  show 12+b.length+(112-b.length)=124
  omega
 generalize hYe:hd12 g n k b [z0,z0,z0,z0]++b++List.replicate (112-b.length) z0=Y at hY ⊢
 refine get_skip (by simp only [List.length_append];rw [hY];decide) ?_
 refine get_skip (by simp only [List.length_set,List.length_append];rw [hY];decide) ?_
 refine get_skip (by simp only [List.length_set,List.length_append];rw [hY];decide) ?_
 refine get_skip (by simp only [List.length_set,List.length_append];rw [hY];decide) ?_
 rw [es4 g Y hY]
 subst hYe
 have hB:List.take 116 (List.drop 8 ((hd12 g n k b [z0,z0,z0,z0]++b++List.replicate (112-b.length) z0)++[bw g 24,bw g 16,bw g 8,bw g 0]))=[bw (IntKind.wrap .u64 n) 8,bw (IntKind.wrap .u64 n) 0,u8 k,u8 (IntKind.wrap .u8 (nI (List.length b)))]++b++List.replicate (112-b.length) z0:=by
  have hl:([bw (IntKind.wrap .u64 n) 8,bw (IntKind.wrap .u64 n) 0,u8 k,u8 (IntKind.wrap .u8 (nI (List.length b)))]++b++List.replicate (112-b.length) z0).length=116:=by
   rw [List.length_append,List.length_append,List.length_replicate]
   show 4+b.length+(112-b.length)=116
   omega
  show List.take 116 (([bw (IntKind.wrap .u64 n) 8,bw (IntKind.wrap .u64 n) 0,u8 k,u8 (IntKind.wrap .u8 (nI (List.length b)))]++b++List.replicate (112-b.length) z0)++[bw g 24,bw g 16,bw g 8,bw g 0])=_
  rw [List.take_append_of_le_length (by rw [hl];exact Nat.le_refl _),List.take_of_length_le (by rw [hl];exact Nat.le_refl _)]
 rw [hB]
 have hbody:([bw (IntKind.wrap .u64 n) 8,bw (IntKind.wrap .u64 n) 0,u8 k,u8 (IntKind.wrap .u8 (nI (List.length b)))]++b++List.replicate (112-b.length) z0).map D.vv=bodyS n k b:=by
  unfold bodyS
  rw [List.map_append,List.map_append,hv,List.map_replicate]
  rfl
 refine⟨.v (.int .u32 (crc (bodyS n k b))),[],⟨conSum,rfl,_,⟨_,?_,rfl,(by rw [← hbody,crc_vv])⟩,rfl⟩,?_⟩
 ·rw [List.length_append,List.length_append,List.length_replicate]
  show 4+b.length+(112-b.length)<1000000
  omega
 have hlen:∀ R:List D,(hd12 g n k b [z0,z0,z0,z0]++b++List.replicate (112-b.length) z0++R).length=124+R.length:=fun R=>by
  rw [List.length_append,List.length_append,List.length_append,List.length_replicate]
  show 12+b.length+(112-b.length)+R.length=_
  omega
 refine get_skip (by rw [hlen];show 7<124+4;decide) ?_
 refine get_skip (by simp only [List.length_set];rw [hlen];show 6<124+4;decide) ?_
 refine get_skip (by simp only [List.length_set];rw [hlen];show 5<124+4;decide) ?_
 refine get_skip (by simp only [List.length_set];rw [hlen];show 4<124+4;decide) ?_
 rw [show D.int (D.v (.int .u32 (crc (bodyS n k b))))=crc (bodyS n k b) from rfl,es7]
 refine⟨_,_,rfl,rfl,?_⟩
 show D.sl false 5 (vvL (List.take 128 (List.drop 0 (hd12 g n k b (by4 (IntKind.wrap .u64 (crc (bodyS n k b))))++b++List.replicate (112-b.length) z0++[bw g 24,bw g 16,bw g 8,bw g 0])))) .non=_
 have hl2:(hd12 g n k b (by4 (IntKind.wrap .u64 (crc (bodyS n k b))))++b++List.replicate (112-b.length) z0++[bw g 24,bw g 16,bw g 8,bw g 0]).length=128:=by
  rw [List.length_append,List.length_append,List.length_append,List.length_replicate]
  show 12+b.length+(112-b.length)+4=_
  omega
 rw [List.drop_zero,List.take_of_length_le (by rw [hl2];exact Nat.le_refl _),vvL_map,List.map_append,List.map_append,List.map_append,hv,List.map_replicate]
 unfold encS bodyS
 simp only [List.append_assoc]
 rfl
end Z
namespace Z
structure Pr where
 r0:Rp
 r1:Rp
 s0:Int
 s1:Int
 told:List Le
 sp0:List Ca
 sp1:List Ca
end Z
namespace Z
def nLn:List (Nat×BK):=[(0,.each 64 1 [.el kLe])]
def gLn:LCfg:=⟨19,8,8,⟨[(0,.el (.one (.sl 64))),(3,.fix (.p 0 0 0)),(7,sI),(8,sI)],nLn⟩,[(.exit 0,⟨[],[]⟩),(.ret,⟨[(4,sI)],[]⟩)]⟩
noncomputable def cCon:Cf:=cf [117] [⟨117,0,2,(117,0),gLn⟩] []
noncomputable def eCon:LId→LSt→M Rd1:=fun id L=>gLn.round PP (kitF PP cCon (callT PP cCon []) yh0 117) (lcode 117 0) L
noncomputable def cDec:Cf:=cf [6,14,15,16,40,100] [] [⟨6,[kRp],.one kI⟩,⟨14,[kRp,kLe],.one kB⟩,⟨15,[kRp,kCa],.one kB⟩,⟨16,[kRp,kEn],.one kRp⟩]
noncomputable def cLrn:Cf:=cf [6,14,16,40,100,102] [] [⟨6,[kRp],.one kI⟩,⟨14,[kRp,kLe],.one kB⟩,⟨16,[kRp,kEn],.one kRp⟩,⟨102,[.one (.sl 64),kLe],.one kB⟩]
theorem t_con(l:List Le)(x:Le):callR cCon [102,117] 102 [sl 64 (l.map dLe),dLe x]=(M.loop (117,0) (ls [sl 64 (List.map dLe l),D.p 0 0 0,iv (nI (List.length (List.map dLe l))),iv (0:Int)] [Blk.arr true 64 1 [D.agg [iv x.1,iv x.2,iv x.3]]]) (fun L0=>M.pure (Rs.ret (bk false))) (fun L0=>M.pure (Rs.ret (bv (decide (D.int (vd L0 0)≥(0:Int)))))) fun L0=>M.bad 154):=by kernel_rfl
theorem rd_con(l:List D)(x:Le)(n i:Int):eCon (117,0) (ls [sl 64 l,.p 0 0 0,iv n,iv i] [b1 64 (dLe x)])=(M.br (decide (i<n)) (M.get l i fun d0=>M.br (decide (x.1=D.int (D.cell d0 0)) && (decide (x.2=D.int (D.cell d0 1)) && (decide (x.3=D.int (D.cell d0 2)) && true))) (M.pure (some 1,(ls [iv i] []))) (M.pure (none,(ls [sl 64 l,D.p 0 0 0,iv n,iv (w64 (i+(1:Int)))] [Blk.arr true 64 1 [D.agg [iv x.1,iv x.2,iv x.3]]])))) (M.pure (some 0,(ls [] [])))):=by kernel_rfl
theorem t_lrn(r:Rp)(l:Le):callR cLrn [77,101,100,40,49] 77 [dRp r,dLe l]=(M.call 6 [dRp r] [] fun d0 o0=>M.br (!D.int d0 == (0:Int)) (M.pure (Rs.ret (D.tup [D.agg [ik (0:Int),D.sl true 64 [] Tok.nil,D.sl true 66 [] Tok.nil,D.sl true 4 [] Tok.nil],ik (530:Int)]))) (M.call 102 [sl 64 (List.map dLe r.2),D.agg [iv l.1,iv l.2,iv l.3]] [] fun d1 o1=>M.br (D.bool d1) (M.pure (Rs.ret (D.tup [dRp r,ik (0:Int)]))) (M.get (List.map dLe r.2) (w64 (nI (List.length (List.map dLe r.2))-(1:Int))) fun d2=>M.br (D.int (D.cell d2 1) != r.1) (M.call 14 [dRp r,D.agg [iv l.1,iv l.2,iv l.3]] [] fun d3 o3=>M.br (!D.bool d3) (M.pure (Rs.ret (D.tup [D.agg [ik (0:Int),D.sl true 64 [] Tok.nil,D.sl true 66 [] Tok.nil,D.sl true 4 [] Tok.nil],ik (530:Int)]))) (M.br (!decide (nI (List.length (List.map dLe r.2))<(256:Int))) (M.pure (Rs.ret (D.tup [D.agg [ik (0:Int),D.sl true 64 [] Tok.nil,D.sl true 66 [] Tok.nil,D.sl true 4 [] Tok.nil],ik (2:Int)]))) (M.call 16 [dRp r,D.agg [bv true,iv l.1,iv l.2,iv l.3,iv (0:Int),iv (0:Int)]] [] fun d4 o4=>M.pure (Rs.ret (D.tup [D.agg [iv (D.int (D.cell d4 0)),sl 64 (D.items (D.cell d4 1)),sl 66 (D.items (D.cell d4 2)),sl 4 (D.items (D.cell d4 3))],ik (0:Int)]))))) (M.pure (Rs.ret (D.tup [D.agg [ik (0:Int),D.sl true 64 [] Tok.nil,D.sl true 66 [] Tok.nil,D.sl true 4 [] Tok.nil],ik (530:Int)])))))):=by kernel_rfl
theorem t_dec(r:Rp)(x y:Int):callR cDec [76,99,100,40,49] 76 [dRp r,iv x,iv y]=(M.call 6 [dRp r] [] fun d0 o0=>M.br (!D.int d0 == (0:Int)) (M.pure (Rs.ret (D.tup [D.agg [ik (0:Int),D.sl true 64 [] Tok.nil,D.sl true 66 [] Tok.nil,D.sl true 4 [] Tok.nil],ik (530:Int)]))) (M.get (List.map dLe r.2) (w64 (nI (List.length (List.map dLe r.2))-(1:Int))) fun d1=>M.br (D.int (D.cell d1 1) == r.1) (M.call 14 [dRp r,D.agg [iv (nI (List.length (List.map dLe r.2))),iv x,iv y]] [] fun d2 o2=>M.br (!D.bool d2) (M.pure (Rs.ret (D.tup [D.agg [ik (0:Int),D.sl true 64 [] Tok.nil,D.sl true 66 [] Tok.nil,D.sl true 4 [] Tok.nil],ik (530:Int)]))) (M.br (!decide (nI (List.length (List.map dLe r.2))<(256:Int))) (M.pure (Rs.ret (D.tup [D.agg [ik (0:Int),D.sl true 64 [] Tok.nil,D.sl true 66 [] Tok.nil,D.sl true 4 [] Tok.nil],ik (2:Int)]))) (M.call 16 [dRp r,D.agg [bv true,iv (nI (List.length (List.map dLe r.2))),iv x,iv y,iv (0:Int),iv (0:Int)]] [] fun d3 o3=>M.pure (Rs.ret (D.tup [D.agg [iv (D.int (D.cell d3 0)),sl 64 (D.items (D.cell d3 1)),sl 66 (D.items (D.cell d3 2)),sl 4 (D.items (D.cell d3 3))],ik (0:Int)]))))) (M.pure (Rs.ret (D.tup [D.agg [ik (0:Int),D.sl true 64 [] Tok.nil,D.sl true 66 [] Tok.nil,D.sl true 4 [] Tok.nil],ik (530:Int)]))))):=by kernel_rfl
theorem t_call(r:Rp)(x y:Int):callR cDec [78,103,100,40,49] 78 [dRp r,iv x,iv y]=(M.call 6 [dRp r] [] fun d0 o0=>M.br (D.int d0 == (0:Int)) (M.call 15 [dRp r,D.agg [iv x,iv y]] [] fun d1 o1=>M.br (!D.bool d1) (M.pure (Rs.ret (D.tup [D.agg [ik (0:Int),D.sl true 64 [] Tok.nil,D.sl true 66 [] Tok.nil,D.sl true 4 [] Tok.nil],ik (530:Int)]))) (M.call 16 [dRp r,D.agg [bv false,iv (0:Int),iv (0:Int),iv (0:Int),iv x,iv y]] [] fun d2 o2=>M.pure (Rs.ret (D.tup [D.agg [iv (D.int (D.cell d2 0)),sl 64 (D.items (D.cell d2 1)),sl 66 (D.items (D.cell d2 2)),sl 4 (D.items (D.cell d2 3))],ik (0:Int)])))) (M.pure (Rs.ret (D.tup [D.agg [ik (0:Int),D.sl true 64 [] Tok.nil,D.sl true 66 [] Tok.nil,D.sl true 4 [] Tok.nil],ik (530:Int)])))):=by kernel_rfl
def conChk:Con PP:=⟨6,[kRp],.one kI,fun args d=>∃ s E,VE s E∧args=[dRp (ofE s E)]∧d=iv 0,fun args d ⟨s,E,hv,ha,hd⟩ h=>by subst ha;subst hd;exact chk_ok s E hv h⟩
abbrev gDec:List (Con PP):=[conChk,conFol,conMay,conWith]
def zR:Rp:=⟨0,[],[],[]⟩
theorem named_dec(l:List FuncId)(h:l.all plainB=true){E:LId→LSt→M Rd1}{C:Cf}{yh:Yh}:NamedT E PP C l yh:=named_all (List.all_eq_true.1 h)
def enC(c:Ca):En:=⟨false,⟨0,0,0⟩,c⟩
def enL(l:Le):En:=⟨true,l,⟨0,0⟩⟩
def callP(r:Rp)(c:Ca):Rp×Int:=if mayP r c=true then(withP r (enC c),0)else(zR,530)
theorem call_ok(s:Int)(E:List En)(hv:VE s E)(x y:Int)(h:Heap):CallSd PP 78 [dRp (ofE s E),iv x,iv y] h (.ret (.tup [dRp (callP (ofE s E) ⟨x,y⟩).1,iv (callP (ofE s E) ⟨x,y⟩).2])) h:=by
 refine con_of (E:=E0) (Γ:=consΓ gDec) (C:=cDec) (l:=[78,103,100,40,49]) (.tup [kRp,kI]) (cons_ok rfl) (named_dec _ (by kernel_rfl)) rfl rfl rfl (to_wp ?_) h
 rw [t_call]
 have hs:=sm_of (s:=s) hv.sm
 refine⟨_,[],⟨conChk,rfl,_,⟨s,E,hv,rfl,rfl⟩,rfl⟩,fun _=>⟨_,[],⟨conMay,rfl,_,⟨ofE s E,⟨x,y⟩,hs,rfl,rfl⟩,rfl⟩,fun h1=>?_,fun h1=>⟨_,[],⟨conWith,rfl,_,⟨ofE s E,enC ⟨x,y⟩,hs,rfl,rfl⟩,rfl⟩,?_⟩⟩,fun h1=>nomatch h1⟩
 ·have h1:mayP (ofE s E) ⟨x,y⟩=false:=by simpa using (show(!mayP (ofE s E) ⟨x,y⟩)=true from h1)
  unfold callP
  rw [if_neg (by rw [h1];simp)]
  exact⟨_,_,rfl,rfl,rfl⟩
 have h1:mayP (ofE s E) ⟨x,y⟩=true:=by simpa using (show(!mayP (ofE s E) ⟨x,y⟩)=false from h1)
 unfold callP
 rw [if_pos h1]
 refine⟨_,_,rfl,rfl,?_⟩
 show D.tup [(dRp (withP (ofE s E) (enC ⟨x,y⟩))).vv,_]=_
 rw [vv_rp]
 rfl
theorem named_con:NamedT eCon PP cCon [102,117] yh0 :=
 named_plain (by kernel_rfl) (named_loop (id0:=(117,0)) (by kernel_rfl) (by kernel_rfl) (by kernel_rfl) (fun s=>by kernel_rfl) (fun L=>rfl) (NamedT.nil (P:=PP)))
theorem eq_le{x y:Le}:(decide (x.1=y.1) && (decide (x.2=y.2) && (decide (x.3=y.3) && true)))=decide (x=y):=by
 obtain⟨a,b,c⟩:=x
 obtain⟨d,e,f⟩:=y
 simp [Le.mk.injEq,Bool.decide_and]
theorem con_lp(l:List Le)(x:Le)(hl:l.length<1000000):∃ j L,Lp eCon (consΓ (P:=PP) []) (117,0) (ls [sl 64 (l.map dLe),.p 0 0 0,iv l.length,iv ((0:Nat):Int)] [b1 64 (dLe x)]) j L∧((j=0∧L=ls [] []∧l.contains x=false)∨∃ k:Nat,j=1∧L=ls [iv (k:Int)] []∧l.contains x=true):=by
 refine lp_up (σ:=Unit) (fun i _=>ls [sl 64 (l.map dLe),.p 0 0 0,iv l.length,iv ((i:Nat):Int)] [b1 64 (dLe x)]) l.length (fun i _=>l.contains x=(l.drop i).contains x) _ (fun i _ hi h=>?_) (fun _ h=>?_) (s:=()) (by rw [List.drop_zero])
 ·rw [rd_con]
  have hx:=List.getElem?_eq_getElem hi
  rw [List.drop_eq_getElem_cons hi]at h
  have hd:(l.map dLe)[((i:Nat):Int).toNat]?=some (dLe l[i]):=by rw [Int.toNat_natCast,List.getElem?_map,hx];rfl
  refine⟨fun _=>⟨by omega,_,hd,fun h2=>?_,fun h2=>?_⟩,fun h1=>absurd h1 (by simp;omega)⟩
  ·have h2:decide (x=l[i])=true:=eq_le.symm.trans h2
   have h2:=of_decide_eq_true h2
   refine .inr ⟨1,_,rfl,.inr ⟨i,rfl,rfl,?_⟩⟩
   rw [h,List.contains_cons,← h2];simp
  have h2:decide (x=l[i])=false:=eq_le.symm.trans h2
  have h2:=of_decide_eq_false h2
  refine .inl ⟨(),?_,?_⟩
  ·rw [w64_id (by omega) (by omega)]
   rfl
  rw [h,List.contains_cons]
  have:(x == l[i])=false:=by simpa using h2
  rw [this,Bool.false_or]
 rw [rd_con]
 rw [List.drop_length]at h
 exact⟨fun h1=>absurd h1 (by simp),fun _=>⟨0,_,rfl,.inl ⟨rfl,rfl,h⟩⟩⟩
theorem con_ok(l:List Le)(x:Le)(hl:l.length<1000000)(h:Heap):CallSd PP 102 [sl 64 (l.map dLe),dLe x] h (.ret (bv (l.contains x))) h:=by
 refine con_of (E:=eCon) (Γ:=consΓ (P:=PP) []) (C:=cCon) (l:=[102,117]) (.one kB) (cons_ok rfl) named_con rfl rfl rfl (to_wp ?_) h
 rw [t_con]
 simp only [len_map,nI]
 obtain⟨j,L,h1,h2⟩:=con_lp l x hl
 rcases h2 with ⟨rfl,rfl,h3⟩|⟨k,rfl,rfl,h3⟩
 ·exact .inl ⟨_,h1,res_kb h3.symm⟩
 refine .inr (.inl ⟨_,h1,res_vb ?_⟩)
 rw [h3]
 show decide (((k:Nat):Int)≥0)=true
 exact decide_eq_true (by omega)
def conCon:Con PP:=⟨102,[.one (.sl 64),kLe],.one kB,fun args d=>∃ (l:List Le) (x:Le),l.length<1000000∧args=[sl 64 (l.map dLe),dLe x]∧d=bv (l.contains x),fun args d ⟨l,x,hl,ha,hd⟩ h=>by subst ha;subst hd;exact con_ok l x hl h⟩
theorem ve_ne{s:Int}{E:List En}(hv:VE s E):leE E≠[]:=by
 have h4:0<E.length:=List.length_pos_iff.2 hv.ne
 have hx:=List.getElem?_eq_getElem h4
 have hn:=hv.nx 0 _ hx
 have hl:E[0].is=true:=by
  cases h6:E[0].is with
  | true=>rfl
  | false =>
   unfold nextP at hn
   rw [h6]at hn
   simp [mayP,mineP,ofE,leE]at hn
 intro h
 have:=drop_one hx
 rw [List.drop_zero]at this
 rw [this,(leE_cons hl).1]at h
 cases h
def lastHo(r:Rp):Int:=match r.le.getLast? with
 | some x=>x.ho
 | none=>0
def addP(ok:Bool)(r:Rp)(l:Le):Rp×Int:=if(ok && folP r l)=true then(if r.le.length<256 then(withP r (enL l),0)else(zR,2))else(zR,530)
def decP(r:Rp)(x y:Int):Rp×Int:=addP (lastHo r == r.self) r ⟨r.le.length,x,y⟩
def lrnP(r:Rp)(l:Le):Rp×Int:=if r.le.contains l=true then(r,0)else addP (lastHo r != r.self) r l
theorem dec_ok(s:Int)(E:List En)(hv:VE s E)(x y:Int)(h:Heap):CallSd PP 76 [dRp (ofE s E),iv x,iv y] h (.ret (.tup [dRp (decP (ofE s E) x y).1,iv (decP (ofE s E) x y).2])) h:=by
 refine con_of (E:=E0) (Γ:=consΓ gDec) (C:=cDec) (l:=[76,99,100,40,49]) (.tup [kRp,kI]) (cons_ok rfl) (named_dec _ (by kernel_rfl)) rfl rfl rfl (to_wp ?_) h
 rw [t_dec]
 simp only [len_map,nI]
 have hs:=sm_of (s:=s) hv.sm
 obtain⟨g1,z,g2,g3⟩:=get_last' dLe (l:=(ofE s E).le) (ve_ne hv) hs.1
 have hlast:lastHo (ofE s E)=z.ho:=by unfold lastHo;rw [g2]
 refine⟨_,[],⟨conChk,rfl,_,⟨s,E,hv,rfl,rfl⟩,rfl⟩,(fun h1=>nomatch h1),fun _=>⟨g1,_,g3,fun h1=>⟨_,[],⟨conFol,rfl,_,⟨ofE s E,⟨(ofE s E).le.length,x,y⟩,hs,rfl,rfl⟩,rfl⟩,fun h2=>?_,fun h2=>⟨fun h3=>?_,fun h3=>⟨_,[],⟨conWith,rfl,_,⟨ofE s E,enL ⟨(ofE s E).le.length,x,y⟩,hs,rfl,rfl⟩,rfl⟩,?_⟩⟩⟩,fun h1=>?_⟩⟩
 ·have h2:folP (ofE s E) ⟨(ofE s E).le.length,x,y⟩=false:=by simpa using (show(!folP (ofE s E) ⟨(ofE s E).le.length,x,y⟩)=true from h2)
  unfold decP addP
  rw [if_neg (by rw [h2];simp)]
  exact⟨_,_,rfl,rfl,rfl⟩
 ·have h1:(z.ho == s)=true:=h1
  have h2:folP (ofE s E) ⟨(ofE s E).le.length,x,y⟩=true:=by simpa using (show(!folP (ofE s E) ⟨(ofE s E).le.length,x,y⟩)=false from h2)
  have h3:¬ (ofE s E).le.length<256:=by
   intro h4
   have h5:decide (((ofE s E).le.length:Int)<256)=true:=decide_eq_true (by omega)
   rw [h5]at h3;cases h3
  unfold decP addP
  rw [hlast,if_pos (by show((z.ho == s) && _)=true;rw [h1,h2];rfl),if_neg h3]
  exact⟨_,_,rfl,rfl,rfl⟩
 ·have h1:(z.ho == s)=true:=h1
  have h2:folP (ofE s E) ⟨(ofE s E).le.length,x,y⟩=true:=by simpa using (show(!folP (ofE s E) ⟨(ofE s E).le.length,x,y⟩)=false from h2)
  have h3:(ofE s E).le.length<256:=by
   have h5:decide (((ofE s E).le.length:Int)<256)=true:=by simpa using h3
   have:=of_decide_eq_true h5
   omega
  unfold decP addP
  rw [hlast,if_pos (by show((z.ho == s) && _)=true;rw [h1,h2];rfl),if_pos h3]
  refine⟨_,_,rfl,rfl,?_⟩
  show D.tup [(dRp (withP (ofE s E) (enL ⟨(ofE s E).le.length,x,y⟩))).vv,_]=_
  rw [vv_rp]
  rfl
 have h1:(z.ho == s)=false:=h1
 unfold decP addP
 rw [hlast,if_neg (by show ¬ ((z.ho == s) && _)=true;rw [h1];simp)]
 exact⟨_,_,rfl,rfl,rfl⟩
theorem lrn_ok(s:Int)(E:List En)(hv:VE s E)(l:Le)(h:Heap):CallSd PP 77 [dRp (ofE s E),dLe l] h (.ret (.tup [dRp (lrnP (ofE s E) l).1,iv (lrnP (ofE s E) l).2])) h:=by
 refine con_of (E:=E0) (Γ:=consΓ [conChk,conFol,conWith,conCon]) (C:=cLrn) (l:=[77,101,100,40,49]) (.tup [kRp,kI]) (cons_ok rfl) (named_dec _ (by kernel_rfl)) rfl rfl rfl (to_wp ?_) h
 rw [t_lrn]
 simp only [len_map,nI]
 have hs:=sm_of (s:=s) hv.sm
 obtain⟨g1,z,g2,g3⟩:=get_last' dLe (l:=(ofE s E).le) (ve_ne hv) hs.1
 have hlast:lastHo (ofE s E)=z.ho:=by unfold lastHo;rw [g2]
 refine⟨_,[],⟨conChk,rfl,_,⟨s,E,hv,rfl,rfl⟩,rfl⟩,(fun h1=>nomatch h1),fun _=>⟨_,[],⟨conCon,rfl,_,⟨(ofE s E).le,l,hs.1,rfl,rfl⟩,rfl⟩,fun hc=>?_,fun hc=>⟨g1,_,g3,fun h1=>⟨_,[],⟨conFol,rfl,_,⟨ofE s E,l,hs,rfl,rfl⟩,rfl⟩,fun h2=>?_,fun h2=>⟨fun h3=>?_,fun h3=>⟨_,[],⟨conWith,rfl,_,⟨ofE s E,enL l,hs,rfl,rfl⟩,rfl⟩,?_⟩⟩⟩,fun h1=>?_⟩⟩⟩
 ·have hc:(ofE s E).le.contains l=true:=hc
  unfold lrnP
  rw [if_pos hc]
  refine⟨_,_,rfl,rfl,?_⟩
  show D.tup [(dRp (ofE s E)).vv,_]=_
  rw [vv_rp]
  rfl
 ·have hc:(ofE s E).le.contains l=false:=hc
  have h2:folP (ofE s E) l=false:=by simpa using (show(!folP (ofE s E) l)=true from h2)
  unfold lrnP addP
  rw [if_neg (by rw [hc];simp),if_neg (by rw [h2];simp)]
  exact⟨_,_,rfl,rfl,rfl⟩
 ·have hc:(ofE s E).le.contains l=false:=hc
  have h1:(z.ho != s)=true:=h1
  have h2:folP (ofE s E) l=true:=by simpa using (show(!folP (ofE s E) l)=false from h2)
  have h3:¬ (ofE s E).le.length<256:=by
   intro h4
   have h5:decide (((ofE s E).le.length:Int)<256)=true:=decide_eq_true (by omega)
   rw [h5]at h3;cases h3
  unfold lrnP addP
  rw [if_neg (by rw [hc];simp),hlast,if_pos (by show((z.ho != s) && _)=true;rw [h1,h2];rfl),if_neg h3]
  exact⟨_,_,rfl,rfl,rfl⟩
 ·have hc:(ofE s E).le.contains l=false:=hc
  have h1:(z.ho != s)=true:=h1
  have h2:folP (ofE s E) l=true:=by simpa using (show(!folP (ofE s E) l)=false from h2)
  have h3:(ofE s E).le.length<256:=by
   have h5:decide (((ofE s E).le.length:Int)<256)=true:=by simpa using h3
   have:=of_decide_eq_true h5
   omega
  unfold lrnP addP
  rw [if_neg (by rw [hc];simp),hlast,if_pos (by show((z.ho != s) && _)=true;rw [h1,h2];rfl),if_pos h3]
  refine⟨_,_,rfl,rfl,?_⟩
  show D.tup [(dRp (withP (ofE s E) (enL l))).vv,_]=_
  rw [vv_rp]
  rfl
 have hc:(ofE s E).le.contains l=false:=hc
 have h1:(z.ho != s)=false:=h1
 unfold lrnP addP
 rw [if_neg (by rw [hc];simp),hlast,if_neg (by show ¬ ((z.ho != s) && _)=true;rw [h1];simp)]
 exact⟨_,_,rfl,rfl,rfl⟩
end Z
namespace Z
def nRcs:List (Nat×BK):=[(1,.each 36 1 [.xt false [(some 8,.sl 57)]]),(2,.each 27 1 [.el kRp]),(3,.mk),(4,.rc 17 43 [(2,.fix (.p 1 0 0))] .ready .non),(8,.tip 57)]
def gRcs:LCfg:=⟨55,8,9,⟨[(0,.fix (.y 4)),(1,.fix (.p 2 0 0)),(3,.el (.one (.sl 64))),(4,.el (.one (.sl 66))),(13,.el (.one (.sl 4))),(14,sI),(15,sI)],nRcs⟩,[(.exit 0,⟨[],nRcs⟩),(.ret,⟨[],nRcs⟩)]⟩
noncomputable def cRcs:Cf:=cf [6,32] [⟨26,17,2,(26,1),gRcs⟩] [⟨6,[kRp],.one kI⟩,⟨32,[.one (.sl 3)],.one (.one (.sl 5))⟩]
noncomputable def eRcs:LId→LSt→M Rd1:=fun id L=>gRcs.round PP (kitF PP cRcs (callT PP cRcs []) (yhF PP cRcs (callT PP cRcs [13,26] yh0) yh0.run 17) 26) (lcode 26 0) L
--D t_rcs ;;(r:Rp) ;;callX [] cRcs [17,13,26] 17 [dRp r]
theorem t_rcs(r:Rp):callR cRcs [17,13,26] 17 [dRp r]=(M.call 6 [dRp r] [] fun d0 o0=>M.br (D.int d0 != (0:Int)) (M.pure (Rs.ret (D.tup [D.k (Value.slice none 0 0),iv (D.int d0)]))) (M.loop (26,1) (ls [D.y 4,D.p 2 0 0,sl 64 (List.map dLe r.2),sl 66 (List.map dCa r.3),sl 4 (List.map bv r.4),iv (nI (List.length (List.map bv r.4))),iv (0:Int)] [Blk.arr true 36 1 [D.sl false 57 [] (Tok.tip 8)],b1 27 (dRp r),Blk.mk,Blk.rc 17 [D.p 1 0 0] LoopState.ready PE.non,Blk.tip 57]) (fun L1=>M.pure (Rs.ret (D.tup [D.sl false 57 (D.items (vb L1 0)) (Tok.tip 8),ik (0:Int)]))) (fun L1=>M.pure (Rs.ret (D.tup [D.sl false 57 (D.items (vb L1 0)) (Tok.tip 8),ik (0:Int)]))) fun L1=>M.bad 154)):=by kernel_rfl
theorem rd_rcs(r:Rp)(le:List Le)(ca:List Ca)(od R:List D)(n i:Int):eRcs (26,1) ⟨[.y 4,.p 2 0 0,sl 64 (le.map dLe),sl 66 (ca.map dCa),sl 4 od,iv n,iv i],[.arr true 36 1 [.sl false 57 R (.tip 8)],b1 27 (dRp r),.mk,.rc 17 [.p 1 0 0] .ready .non,.tip 57],[]⟩=(M.br (decide (i<n)) (M.get od i fun d0=>M.br (D.bool d0) (M.br (decide (nI (List.length (List.map dLe le))>(0:Int))) (M.get (List.map dLe le) (0:Int) fun d1=>M.need (decide ((0:Int)≤(1:Int)∧(1:Int)≤nI (List.length (List.map dLe le))∧nI (List.length (List.map dLe le))≤nI (List.length (List.map dLe le)))) (M.br (D.bool d0) (M.call 32 [D.sl false 3 [iv (1:Int),iv (D.int (D.cell d1 0)),iv (D.int (D.cell d1 1)),iv (D.int (D.cell d1 2))] Tok.non] [] fun d2 o2=>M.need (decide (List.length R+(1:Nat)≤1099511627776)) (M.pure (none,(ls [D.y 4,D.p 2 0 0,sl 64 (List.drop 1 (List.map dLe le)),sl 66 (List.map dCa ca),sl 4 od,iv n,iv (w64 (i+(1:Int)))] [Blk.arr true 36 1 [D.sl false 57 (R++[sl 5 (D.items d2)]) (Tok.tip 8)],b1 27 (dRp r),Blk.mk,Blk.rc 17 [D.p 1 0 0] LoopState.ready PE.non,Blk.tip 57])))) (M.call 32 [D.sl false 3 [iv (2:Int),iv (0:Int),iv (0:Int)] Tok.non] [] fun d2 o2=>M.need (decide (List.length R+(1:Nat)≤1099511627776)) (M.pure (none,(ls [D.y 4,D.p 2 0 0,sl 64 (List.drop 1 (List.map dLe le)),sl 66 (List.map dCa ca),sl 4 od,iv n,iv (w64 (i+(1:Int)))] [Blk.arr true 36 1 [D.sl false 57 (R++[sl 5 (D.items d2)]) (Tok.tip 8)],b1 27 (dRp r),Blk.mk,Blk.rc 17 [D.p 1 0 0] LoopState.ready PE.non,Blk.tip 57])))))) (M.br (!D.bool d0) (M.br (decide (nI (List.length (List.map dCa ca))>(0:Int))) (M.get (List.map dCa ca) (0:Int) fun d1=>M.need (decide ((0:Int)≤(1:Int)∧(1:Int)≤nI (List.length (List.map dCa ca))∧nI (List.length (List.map dCa ca))≤nI (List.length (List.map dCa ca)))) (M.br (D.bool d0) (M.call 32 [D.sl false 3 [iv (1:Int),iv (0:Int),iv (0:Int),iv (0:Int)] Tok.non] [] fun d2 o2=>M.need (decide (List.length R+(1:Nat)≤1099511627776)) (M.pure (none,(ls [D.y 4,D.p 2 0 0,sl 64 (List.map dLe le),sl 66 (List.drop 1 (List.map dCa ca)),sl 4 od,iv n,iv (w64 (i+(1:Int)))] [Blk.arr true 36 1 [D.sl false 57 (R++[sl 5 (D.items d2)]) (Tok.tip 8)],b1 27 (dRp r),Blk.mk,Blk.rc 17 [D.p 1 0 0] LoopState.ready PE.non,Blk.tip 57])))) (M.call 32 [D.sl false 3 [iv (2:Int),iv (D.int (D.cell d1 0)),iv (D.int (D.cell d1 1))] Tok.non] [] fun d2 o2=>M.need (decide (List.length R+(1:Nat)≤1099511627776)) (M.pure (none,(ls [D.y 4,D.p 2 0 0,sl 64 (List.map dLe le),sl 66 (List.drop 1 (List.map dCa ca)),sl 4 od,iv n,iv (w64 (i+(1:Int)))] [Blk.arr true 36 1 [D.sl false 57 (R++[sl 5 (D.items d2)]) (Tok.tip 8)],b1 27 (dRp r),Blk.mk,Blk.rc 17 [D.p 1 0 0] LoopState.ready PE.non,Blk.tip 57])))))) (M.pure (some 1,(ls [] [Blk.arr true 36 1 [D.sl false 57 R (Tok.tip 8)],b1 27 (dRp r),Blk.mk,Blk.rc 17 [D.p 1 0 0] LoopState.ready PE.non,Blk.tip 57])))) (M.pure (some 1,(ls [] [Blk.arr true 36 1 [D.sl false 57 R (Tok.tip 8)],b1 27 (dRp r),Blk.mk,Blk.rc 17 [D.p 1 0 0] LoopState.ready PE.non,Blk.tip 57]))))) (M.br (!D.bool d0) (M.br (decide (nI (List.length (List.map dCa ca))>(0:Int))) (M.get (List.map dCa ca) (0:Int) fun d1=>M.need (decide ((0:Int)≤(1:Int)∧(1:Int)≤nI (List.length (List.map dCa ca))∧nI (List.length (List.map dCa ca))≤nI (List.length (List.map dCa ca)))) (M.br (D.bool d0) (M.call 32 [D.sl false 3 [iv (1:Int),iv (0:Int),iv (0:Int),iv (0:Int)] Tok.non] [] fun d2 o2=>M.need (decide (List.length R+(1:Nat)≤1099511627776)) (M.pure (none,(ls [D.y 4,D.p 2 0 0,sl 64 (List.map dLe le),sl 66 (List.drop 1 (List.map dCa ca)),sl 4 od,iv n,iv (w64 (i+(1:Int)))] [Blk.arr true 36 1 [D.sl false 57 (R++[sl 5 (D.items d2)]) (Tok.tip 8)],b1 27 (dRp r),Blk.mk,Blk.rc 17 [D.p 1 0 0] LoopState.ready PE.non,Blk.tip 57])))) (M.call 32 [D.sl false 3 [iv (2:Int),iv (D.int (D.cell d1 0)),iv (D.int (D.cell d1 1))] Tok.non] [] fun d2 o2=>M.need (decide (List.length R+(1:Nat)≤1099511627776)) (M.pure (none,(ls [D.y 4,D.p 2 0 0,sl 64 (List.map dLe le),sl 66 (List.drop 1 (List.map dCa ca)),sl 4 od,iv n,iv (w64 (i+(1:Int)))] [Blk.arr true 36 1 [D.sl false 57 (R++[sl 5 (D.items d2)]) (Tok.tip 8)],b1 27 (dRp r),Blk.mk,Blk.rc 17 [D.p 1 0 0] LoopState.ready PE.non,Blk.tip 57])))))) (M.pure (some 1,(ls [] [Blk.arr true 36 1 [D.sl false 57 R (Tok.tip 8)],b1 27 (dRp r),Blk.mk,Blk.rc 17 [D.p 1 0 0] LoopState.ready PE.non,Blk.tip 57])))) (M.pure (some 1,(ls [] [Blk.arr true 36 1 [D.sl false 57 R (Tok.tip 8)],b1 27 (dRp r),Blk.mk,Blk.rc 17 [D.p 1 0 0] LoopState.ready PE.non,Blk.tip 57]))))) (M.pure (some 0,(ls [] [Blk.arr true 36 1 [D.sl false 57 R (Tok.tip 8)],b1 27 (dRp r),Blk.mk,Blk.rc 17 [D.p 1 0 0] LoopState.ready PE.non,Blk.tip 57])))):=by kernel_rfl
section
variable {E:LId→LSt→M Rd1}{Γ:Cn}{β:Type}{Q:β→Prop}
theorem ent_t{i n:Int}{od:List D}{y:Le}{le:List Le}{A:D→D→M β}{B C:D→M β}{Z:M β}(hi:i<n)(h0:0≤i)(hod:od[i.toNat]?=some (bv true))(h:Wp E Γ (A (bv true) (dLe y)) Q):Wp E Γ (.br (decide (i<n)) (.get od i fun d0=>.br (D.bool d0) (.br (decide (nI (List.length (List.map dLe (y::le)))>(0:Int))) (.get (List.map dLe (y::le)) (0:Int) fun d1=>.need (decide ((0:Int)≤(1:Int)∧(1:Int)≤nI (List.length (List.map dLe (y::le)))∧nI (List.length (List.map dLe (y::le)))≤nI (List.length (List.map dLe (y::le))))) (A d0 d1)) (B d0)) (C d0)) Z) Q :=
 ⟨fun _=>⟨h0,_,hod,fun _=>⟨fun _=>⟨Int.le_refl _,_,rfl,by simp [nI];omega,h⟩,fun h=>by simp [nI]at h⟩,fun h=>nomatch h⟩,fun h=>absurd h (by simp;omega)⟩
theorem ent_f{i n:Int}{od:List D}{y:Ca}{ca:List Ca}{A:D→D→M β}{B C D':D→M β}{Z:M β}(hi:i<n)(h0:0≤i)(hod:od[i.toNat]?=some (bv false))(h:Wp E Γ (A (bv false) (dCa y)) Q):Wp E Γ (.br (decide (i<n)) (.get od i fun d0=>.br (D.bool d0) (D' d0) (.br (!D.bool d0) (.br (decide (nI (List.length (List.map dCa (y::ca)))>(0:Int))) (.get (List.map dCa (y::ca)) (0:Int) fun d1=>.need (decide ((0:Int)≤(1:Int)∧(1:Int)≤nI (List.length (List.map dCa (y::ca)))∧nI (List.length (List.map dCa (y::ca)))≤nI (List.length (List.map dCa (y::ca))))) (A d0 d1)) (B d0)) (C d0))) Z) Q :=
 ⟨fun _=>⟨h0,_,hod,(fun h=>nomatch h),fun _=>⟨fun _=>⟨fun _=>⟨Int.le_refl _,_,rfl,by simp [nI];omega,h⟩,fun h=>by simp [nI]at h⟩,fun h=>nomatch h⟩⟩,fun h=>absurd h (by simp;omega)⟩
theorem ent_e{i n:Int}{X Z:M β}(hi:¬ i<n)(h:Wp E Γ Z Q):Wp E Γ (.br (decide (i<n)) X Z) Q:=⟨fun h=>absurd (of_decide_eq_true h) hi,fun _=>h⟩
end
def recL(x:En):List Int:=match x.is with
 | true=>[1,x.le.no,x.le.ho,x.le.un]
 | false=>[2,x.ca.bar,x.ca.pr]
abbrev recD (l:List Int):D:=sl 5 (eL l)
theorem vv_eU(u:Int):(eU u).map D.vv=eU u:=by unfold eU;split<;>rfl
theorem vv_eL(l:List Int):(eL l).map D.vv=eL l:=by
 unfold eL
 show D.vv (u8 3)::D.vv (u8 _)::List.map D.vv (List.flatMap _ l)=_
 have:∀ l:List Int,List.map D.vv (List.flatMap (fun n=>u8 1::eU (2*n)) l)=List.flatMap (fun n=>u8 1::eU (2*n)) l:=fun l=>by
  induction l with
  | nil=>rfl
  | cons n l ih =>
   rw [List.flatMap_cons,List.map_append,ih,List.map_cons,vv_eU]
   rfl
 rw [this]
 rfl
theorem vv_recs(l:List (List Int)):vvL (l.map recD)=l.map recD:=by
 rw [vvL_map,List.map_map]
 refine List.map_congr_left fun x _=>?_
 show D.sl false 5 (vvL (eL x)) .non=_
 rw [vvL_map,vv_eL]
def Le.Ok(l:Le):Prop:=(0≤l.no∧l.no≤256)∧(0≤l.ho∧l.ho≤1)∧0<l.un∧l.un≤4096
theorem endP_pos{l:List Le}(h:∀ x∈l,x.Ok):0≤endP l:=by
 unfold endP
 cases hl:l.getLast? with
 | none=>exact Int.le_refl _
 | some x=>have:=(h x (List.mem_of_getLast? hl)).2.2;dsimp only;omega
theorem leE_app(A B:List En):leE (A++B)=leE A++leE B:=by unfold leE;simp
theorem leE_take(E:List En)(i:Nat):(leE (E.take i)).length≤(leE E).length:=by
 have:=leE_app (E.take i) (E.drop i)
 rw [List.take_append_drop]at this
 rw [this,List.length_append];omega
theorem fol_un{r:Rp}{l:Le}(h:folP r l=true):l.no=(r.le.length:Int)∧(0≤l.ho∧l.ho≤1)∧endP r.le<l.un∧l.un≤4096:=by
 unfold folP at h
 simp only [Bool.and_eq_true,beq_iff_eq,decide_eq_true_eq]at h
 exact⟨h.1.1.1.1,⟨h.1.1.1.2,h.1.1.2⟩,h.1.2,h.2⟩
theorem ve_les{s:Int}{E:List En}(hv:VE s E):∀ i,i≤E.length→∀ l∈leE (E.take i),l.Ok
 | 0,_,l,hl=>by rw [List.take_zero]at hl;cases hl
 | i+1,hi,l,hl=>by
  have hx:=List.getElem?_eq_getElem (show i<E.length by omega)
  rw [take_one hx,leE_app]at hl
  rcases List.mem_append.1 hl with hl|hl
  ·exact ve_les hv i (by omega) l hl
  have hn:=hv.nx i _ hx
  cases hb:E[i].is with
  | false=>rw [(caE_cons hb).2]at hl;cases hl
  | true =>
   rw [(leE_cons hb).1]at hl
   obtain rfl:l=E[i].le:=by simpa [leE]using hl
   unfold nextP at hn
   rw [hb]at hn
   obtain⟨h1,h2,h3,h4⟩:=fol_un hn
   have h5:=endP_pos (ve_les hv i (by omega))
   have h6:=leE_take E i
   have h7:=hv.le
   refine⟨?_,h2,?_,h4⟩
   ·rw [h1]
    show(0:Int)≤((leE (E.take i)).length:Int)∧((leE (E.take i)).length:Int)≤256
    omega
   have:endP (ofE s (E.take i)).le=endP (leE (E.take i)):=rfl
   omega
theorem ve_le{s:Int}{E:List En}(hv:VE s E):∀ l∈leE E,l.Ok:=by
 have:=ve_les hv E.length (Nat.le_refl _)
 rw [List.take_length]at this
 exact this
theorem may_in{r:Rp}{c:Ca}(h:mayP r c=true)(hl:∀ l∈r.le,l.Ok):(0≤c.bar∧c.bar<4096)∧1≤c.pr∧c.pr≤8:=by
 unfold mayP mineP at h
 simp only [Bool.and_eq_true,decide_eq_true_eq]at h
 obtain⟨⟨⟨⟨h1,h2⟩,_⟩,h3⟩,h4⟩:=h
 refine⟨⟨h1,?_⟩,h3,h4⟩
 cases hf:r.le.find? fun l=>decide (c.bar<l.un)with
 | none=>rw [hf]at h2;cases h2
 | some l =>
  have h5:=List.find?_some hf
  have h6:=(hl l (List.mem_of_find?_eq_some hf)).2.2
  have h5:=of_decide_eq_true h5
  omega
theorem ve_rec{s:Int}{E:List En}(hv:VE s E){x:En}(hx:x∈E):RecN (recL x):=by
 obtain⟨i,hi,rfl⟩:=List.getElem_of_mem hx
 have hn:=hv.nx i _ (List.getElem?_eq_getElem hi)
 unfold recL
 cases hb:E[i].is with
 | true =>
  have hm:E[i].le∈leE E:=by unfold leE;exact List.mem_map.2 ⟨E[i],List.mem_filter.2 ⟨hx,hb⟩,rfl⟩
  obtain⟨h1,h2,h3,h4⟩:=ve_le hv _ hm
  exact .lease ⟨h1.1,by omega⟩ ⟨h2.1,by omega⟩ ⟨by omega,by omega⟩
 | false =>
  unfold nextP at hn
  rw [hb]at hn
  obtain⟨h1,h2⟩:=may_in hn (ve_les hv i (Nat.le_of_lt hi))
  exact .call ⟨h1.1,by omega⟩ ⟨by omega,by omega⟩
abbrev stRcs (s:Int) (E:List En) (i:Nat):LSt:=⟨[.y 4,.p 2 0 0,sl 64 ((leE (E.drop i)).map dLe),sl 66 ((caE (E.drop i)).map dCa),sl 4 ((odE E).map bv),iv E.length,iv ((i:Nat):Int)],[.arr true 36 1 [.sl false 57 ((E.take i).map fun x=>recD (recL x)) (.tip 8)],b1 27 (dRp (ofE s E)),.mk,.rc 17 [.p 1 0 0] .ready .non,.tip 57],[]⟩
abbrev gRec:List (Con PP):=[conChk,conRec]
theorem rcs_lp(s:Int)(E:List En)(hv:VE s E):∃ j L,Lp eRcs (consΓ gRec) (26,1) (stRcs s E 0) j L∧j=0∧L=⟨[],(stRcs s E E.length).bs,[]⟩:=by
 have hsm:=hv.sm
 refine lp_up (σ:=Unit) (fun i _=>stRcs s E i) E.length (fun _ _=>True) _ (fun i _ hi _=>?_) (fun _ _=>?_) (s:=()) trivial
 ·have hx:=List.getElem?_eq_getElem hi
  rw [rd_rcs]
  generalize E[i]=x at hx
  have hrec:=ve_rec hv (List.mem_of_getElem? hx)
  have hod:=od_get hx
  have ht:=take_one hx
  rw [drop_one hx]
  have hq:∀ y:Nat,decide (((E.take i).map fun x=>recD (recL x)).length+1≤1099511627776)=true:=fun _=>decide_eq_true (by rw [List.length_map,List.length_take];omega)
  cases hb:x.is with
  | true =>
   obtain⟨q1,q2⟩:=leE_cons (E:=E.drop (i+1)) hb
   rw [q1,q2]
   rw [hb]at hod
   refine ent_t (by omega) (by omega) hod ⟨fun _=>⟨_,[],⟨conRec,rfl,_,⟨recL x,hrec,?_,rfl⟩,rfl⟩,hq 0,.inl ⟨(),?_,trivial⟩⟩,fun h=>nomatch h⟩
   ·unfold recL;rw [hb];rfl
   rw [w64_id (by omega) (by omega)]
   unfold stRcs
   rw [ht,List.map_append]
   rfl
  | false =>
   obtain⟨q1,q2⟩:=caE_cons (E:=E.drop (i+1)) hb
   rw [q1,q2]
   rw [hb]at hod
   refine ent_f (by omega) (by omega) hod ⟨(fun h=>nomatch h),fun _=>⟨_,[],⟨conRec,rfl,_,⟨recL x,hrec,?_,rfl⟩,rfl⟩,hq 0,.inl ⟨(),?_,trivial⟩⟩⟩
   ·unfold recL;rw [hb];rfl
   rw [w64_id (by omega) (by omega)]
   unfold stRcs
   rw [ht,List.map_append]
   rfl
 rw [rd_rcs]
 exact ent_e (by omega) ⟨0,_,rfl,rfl,rfl⟩
theorem named_rcs:NamedT eRcs PP cRcs [17,13,26] yh0 :=
 named_range (c0:=lcode 17 0) (by kernel_rfl) (fun c s=>rfl) (by kernel_rfl) (named_plain (by kernel_rfl) (named_none (by kernel_rfl) (by kernel_rfl) (fun c s=>rfl) (NamedT.nil (P:=PP))))
  (named_plain (by kernel_rfl) (named_loop (id0:=(26,1)) (by kernel_rfl) (by kernel_rfl) (by kernel_rfl) (fun s=>by kernel_rfl) (fun L=>rfl) (NamedT.nil (P:=PP))))
def rcsE(E:List En):List (List Int):=E.map recL
theorem rcs_ok(s:Int)(E:List En)(hv:VE s E)(h:Heap):CallSd PP 17 [dRp (ofE s E)] h (.ret (.tup [sl 57 ((rcsE E).map recD),iv 0])) h:=by
 refine con_of (E:=eRcs) (Γ:=consΓ gRec) (C:=cRcs) (l:=[17,13,26]) (.tup [.one (.sl 57),kI]) (cons_ok rfl) named_rcs rfl rfl rfl (to_wp ?_) h
 rw [t_rcs]
 refine⟨_,[],⟨conChk,rfl,_,⟨s,E,hv,rfl,rfl⟩,rfl⟩,(fun h=>nomatch h),fun _=>?_⟩
 obtain⟨j,L,g1,rfl,rfl⟩:=rcs_lp s E hv
 refine .inl ⟨⟨[],(stRcs s E E.length).bs,[]⟩,?_,?_⟩
 ·have h2:((odE E).map bv).length=E.length:=by rw [len_map,odE_len]
  show Lp eRcs (consΓ gRec) (26,1) (ls [D.y 4,D.p 2 0 0,sl 64 (List.map dLe (leE E)),sl 66 (List.map dCa (caE E)),sl 4 (List.map bv (odE E)),iv (nI ((odE E).map bv).length),iv 0] [Blk.arr true 36 1 [D.sl false 57 [] (Tok.tip 8)],b1 27 (dRp (ofE s E)),Blk.mk,Blk.rc 17 [D.p 1 0 0] LoopState.ready PE.non,Blk.tip 57]) 0 _
  rw [h2]
  exact g1
 refine⟨_,_,rfl,rfl,?_⟩
 show D.tup [D.sl false 57 (vvL ((E.take E.length).map fun x=>recD (recL x))) .non,iv 0]=_
 have:=vv_recs (rcsE E)
 unfold rcsE at this ⊢
 rw [List.map_map]at this ⊢
 rw [List.take_length]
 exact congrArg (fun l=>D.tup [D.sl false 57 l .non,iv 0]) this
end Z
namespace Z
def kRd0:SK0:=.row [.sl 5]
def kRd:SK:=.el kRd0
def gNum:LCfg:=⟨38,128,128,⟨[(0,.fix (.p 2 0 0)),(2,.el (.one (.i .u64))),(3,sI)],[(2,.each 179 1 [kRd])]⟩,[(.ret,⟨[(2,.el (.one (.i .u64)))],[(2,.each 179 1 [kRd])]⟩)]⟩
def nLst:List (Nat×BK):=[(0,.each 129 1 [.el kVa]),(1,.each 33 1 [sI]),(2,.each 179 1 [kRd]),(3,.each 129 1 [.xt true [(none,.i .i64),(none,.i .i64),(none,.s),(some 8,.sl 129)]]),(8,.tip 129)]
def gLst:LCfg:=⟨50,8,9,⟨[(0,.fix (.p 2 0 0)),(1,sI),(4,.fix (.p 3 0 0)),(36,sI),(37,sI)],nLst⟩,[(.exit 1,⟨[(0,.fix (.p 2 0 0)),(4,.fix (.p 3 0 0))],nLst⟩)]⟩
noncomputable def cNumb(base:Caller):Cf:={ cff (fun _=>1) [114] [95] [115] [⟨115,0,3,(115,0),gNum⟩,⟨95,0,11,(95,0),gLst⟩] []with base:=base }
noncomputable abbrev lVal:List FuncId:=[95,116,115,113,96,114]
noncomputable abbrev lDecd:List FuncId:=[71,94,95,116,115,113,96,114]
noncomputable def eDecd(base:Caller):LId→LSt→M Rd1:=fun id L=>if id=(115,0)then gNum.round PP (kitF PP (cNumb base) (callT PP (cNumb base) [113,96,114]) yh0 115) (lcode 115 0) L else gLst.round PP (kitF PP (cNumb base) (callT PP (cNumb base) [116,115,113,96,114]) yh0 95) (lcode 95 0) L
noncomputable def bVal:Caller:=consB PP [⟨95,2,179,kRd0,[kI],.one kVa,false⟩] (cons PP [])
theorem rd_num(base:Caller)(B:List D)(u i:Int):eDecd base (115,0) ⟨[.p 2 0 0,.v (.int .u64 u),iv i],[.arr true 179 1 [.agg [sl 5 B]]],[]⟩=(M.br (!decide ((1:Int)≤nI (List.length B))) (M.bad 151) (M.need (decide ((0:Int)≤(0:Int)∧(0:Int)≤(1:Int)∧(1:Int)≤nI (List.length B)∧(1:Int)=(1:Int))) (M.need (decide ((0:Int)≤(1:Int)∧(1:Int)≤nI (List.length B)∧nI (List.length B)≤nI (List.length B))) (M.get (List.take 1 B) (0:Int) fun d0=>M.br (i == (0:Int)) (M.br (decide (i<(9:Int))) (M.need (decide ((0:Int)≤w64 ((7:Int)*i))) (M.br (decide (D.int d0<(128:Int))) (M.pure (some 0,(ls [D.v (Value.int IntKind.u64 (IntKind.wrap IntKind.u64 (nI (BitVec.toNat (BitVec.ofInt 64 u|||BitVec.ofInt 64 (IntKind.wrap IntKind.u64 (IntKind.wrap IntKind.u64 (IntKind.wrap IntKind.u8 (nI (BitVec.toNat (BitVec.ofInt 8 (D.int d0)&&&BitVec.ofInt 8 (127:Int)))))*(2:Int) ^ min (Int.toNat (w64 ((7:Int)*i))) 64)))))))] [Blk.arr true 179 1 [D.agg [sl 5 (List.drop 1 B)]]]))) (M.pure (none,(ls [D.p 2 0 0,D.v (Value.int IntKind.u64 (IntKind.wrap IntKind.u64 (nI (BitVec.toNat (BitVec.ofInt 64 u|||BitVec.ofInt 64 (IntKind.wrap IntKind.u64 (IntKind.wrap IntKind.u64 (IntKind.wrap IntKind.u8 (nI (BitVec.toNat (BitVec.ofInt 8 (D.int d0)&&&BitVec.ofInt 8 (127:Int)))))*(2:Int) ^ min (Int.toNat (w64 ((7:Int)*i))) 64))))))),iv (w64 (i+(1:Int)))] [Blk.arr true 179 1 [D.agg [sl 5 (List.drop 1 B)]]]))))) (M.br (!decide (D.int d0≤(1:Int))) (M.bad 151) (M.need (decide ((0:Int)≤w64 ((7:Int)*i))) (M.br (decide (D.int d0<(128:Int))) (M.pure (some 0,(ls [D.v (Value.int IntKind.u64 (IntKind.wrap IntKind.u64 (nI (BitVec.toNat (BitVec.ofInt 64 u|||BitVec.ofInt 64 (IntKind.wrap IntKind.u64 (IntKind.wrap IntKind.u64 (IntKind.wrap IntKind.u8 (nI (BitVec.toNat (BitVec.ofInt 8 (D.int d0)&&&BitVec.ofInt 8 (127:Int)))))*(2:Int) ^ min (Int.toNat (w64 ((7:Int)*i))) 64)))))))] [Blk.arr true 179 1 [D.agg [sl 5 (List.drop 1 B)]]]))) (M.pure (none,(ls [D.p 2 0 0,D.v (Value.int IntKind.u64 (IntKind.wrap IntKind.u64 (nI (BitVec.toNat (BitVec.ofInt 64 u|||BitVec.ofInt 64 (IntKind.wrap IntKind.u64 (IntKind.wrap IntKind.u64 (IntKind.wrap IntKind.u8 (nI (BitVec.toNat (BitVec.ofInt 8 (D.int d0)&&&BitVec.ofInt 8 (127:Int)))))*(2:Int) ^ min (Int.toNat (w64 ((7:Int)*i))) 64))))))),iv (w64 (i+(1:Int)))] [Blk.arr true 179 1 [D.agg [sl 5 (List.drop 1 B)]]]))))))) (M.br (D.int d0 != (0:Int)) (M.br (decide (i<(9:Int))) (M.need (decide ((0:Int)≤w64 ((7:Int)*i))) (M.br (decide (D.int d0<(128:Int))) (M.pure (some 0,(ls [D.v (Value.int IntKind.u64 (IntKind.wrap IntKind.u64 (nI (BitVec.toNat (BitVec.ofInt 64 u|||BitVec.ofInt 64 (IntKind.wrap IntKind.u64 (IntKind.wrap IntKind.u64 (IntKind.wrap IntKind.u8 (nI (BitVec.toNat (BitVec.ofInt 8 (D.int d0)&&&BitVec.ofInt 8 (127:Int)))))*(2:Int) ^ min (Int.toNat (w64 ((7:Int)*i))) 64)))))))] [Blk.arr true 179 1 [D.agg [sl 5 (List.drop 1 B)]]]))) (M.pure (none,(ls [D.p 2 0 0,D.v (Value.int IntKind.u64 (IntKind.wrap IntKind.u64 (nI (BitVec.toNat (BitVec.ofInt 64 u|||BitVec.ofInt 64 (IntKind.wrap IntKind.u64 (IntKind.wrap IntKind.u64 (IntKind.wrap IntKind.u8 (nI (BitVec.toNat (BitVec.ofInt 8 (D.int d0)&&&BitVec.ofInt 8 (127:Int)))))*(2:Int) ^ min (Int.toNat (w64 ((7:Int)*i))) 64))))))),iv (w64 (i+(1:Int)))] [Blk.arr true 179 1 [D.agg [sl 5 (List.drop 1 B)]]]))))) (M.br (!decide (D.int d0≤(1:Int))) (M.bad 151) (M.need (decide ((0:Int)≤w64 ((7:Int)*i))) (M.br (decide (D.int d0<(128:Int))) (M.pure (some 0,(ls [D.v (Value.int IntKind.u64 (IntKind.wrap IntKind.u64 (nI (BitVec.toNat (BitVec.ofInt 64 u|||BitVec.ofInt 64 (IntKind.wrap IntKind.u64 (IntKind.wrap IntKind.u64 (IntKind.wrap IntKind.u8 (nI (BitVec.toNat (BitVec.ofInt 8 (D.int d0)&&&BitVec.ofInt 8 (127:Int)))))*(2:Int) ^ min (Int.toNat (w64 ((7:Int)*i))) 64)))))))] [Blk.arr true 179 1 [D.agg [sl 5 (List.drop 1 B)]]]))) (M.pure (none,(ls [D.p 2 0 0,D.v (Value.int IntKind.u64 (IntKind.wrap IntKind.u64 (nI (BitVec.toNat (BitVec.ofInt 64 u|||BitVec.ofInt 64 (IntKind.wrap IntKind.u64 (IntKind.wrap IntKind.u64 (IntKind.wrap IntKind.u8 (nI (BitVec.toNat (BitVec.ofInt 8 (D.int d0)&&&BitVec.ofInt 8 (127:Int)))))*(2:Int) ^ min (Int.toNat (w64 ((7:Int)*i))) 64))))))),iv (w64 (i+(1:Int)))] [Blk.arr true 179 1 [D.agg [sl 5 (List.drop 1 B)]]]))))))) (M.bad 151)))))):=by kernel_rfl
theorem t_val(base:Caller)(B:List D):callRB (cNumb base) lVal 95 [iv 1] 2 89 179 (.agg [sl 5 B])=(M.br (!decide ((1:Int)≤nI (List.length B))) (M.pure (Rs.pan (D.ifc 33 (ik (10:Int))),Blk.arr true 179 1 [D.agg [sl 5 B]])) (M.need (decide ((0:Int)≤(0:Int)∧(0:Int)≤(1:Int)∧(1:Int)≤nI (List.length B)∧(1:Int)=(1:Int))) (M.need (decide ((0:Int)≤(1:Int)∧(1:Int)≤nI (List.length B)∧nI (List.length B)≤nI (List.length B))) (M.get (List.take 1 B) (0:Int) fun d0=>M.br (w64 (D.int d0) == (1:Int)) (M.loop (115,0) (ls [D.p 2 0 0,D.v (Value.int IntKind.u64 (0:Int)),iv (0:Int)] [Blk.arr true 179 1 [D.agg [sl 5 (List.drop 1 B)]]]) (fun L1=>M.pure (Rs.ret (D.agg [iv (w64 (D.int d0)),iv (w64 (nI (BitVec.toNat (BitVec.ofInt 64 (w64 (Int.fdiv (D.int (vd L1 0)) ((2:Int) ^ 1)))^^^BitVec.ofInt 64 (w64 (-w64 (IntKind.wrap IntKind.u64 (nI (BitVec.toNat (BitVec.ofInt 64 (D.int (vd L1 0))&&&BitVec.ofInt 64 (1:Int))))))))))),D.k (Value.string { data:=#[] }),D.sl true 129 [] Tok.nil]),Blk.arr true 179 1 [D.agg [sl 5 (D.items (D.cell (vb L1 0) 0))]])) (fun L1=>M.bad 154) fun L1=>M.bad 154) (M.br (w64 (D.int d0) == (2:Int)) (M.loop (115,0) (ls [D.p 2 0 0,D.v (Value.int IntKind.u64 (0:Int)),iv (0:Int)] [Blk.arr true 179 1 [D.agg [sl 5 (List.drop 1 B)]]]) (fun L1=>M.br (!decide (D.int (vd L1 0)≤IntKind.wrap IntKind.u64 (nI (List.length (D.items (D.cell (vb L1 0) 0)))))) (M.pure (Rs.pan (D.ifc 33 (ik (10:Int))),Blk.arr true 179 1 [D.agg [sl 5 (D.items (D.cell (vb L1 0) 0))]])) (M.br (!decide (w64 (D.int (vd L1 0))≤nI (List.length (D.items (D.cell (vb L1 0) 0))))) (M.pure (Rs.pan (D.ifc 33 (ik (10:Int))),Blk.arr true 179 1 [D.agg [sl 5 (D.items (D.cell (vb L1 0) 0))]])) (M.need (decide ((0:Int)≤(0:Int)∧(0:Int)≤w64 (D.int (vd L1 0))∧w64 (D.int (vd L1 0))≤nI (List.length (D.items (D.cell (vb L1 0) 0)))∧w64 (D.int (vd L1 0))=w64 (D.int (vd L1 0)))) (M.need (decide ((0:Int)≤w64 (D.int (vd L1 0))∧w64 (D.int (vd L1 0))≤nI (List.length (D.items (D.cell (vb L1 0) 0)))∧nI (List.length (D.items (D.cell (vb L1 0) 0)))≤nI (List.length (D.items (D.cell (vb L1 0) 0))))) (M.pure (Rs.ret (D.agg [iv (w64 (D.int d0)),ik (0:Int),D.v (Value.string { data:=List.toArray (List.map (fun n=>UInt8.ofNat (Int.toNat n)) (List.map D.int (slcL (D.items (D.cell (vb L1 0) 0)) none (some (false,w64 (D.int (vd L1 0)))) (Int.toNat (Prod.snd (Option.getD none (true,(0:Int))))) (Int.toNat (Prod.snd (Option.getD (some (false,w64 (D.int (vd L1 0)))) (true,(↑(List.length (D.items (D.cell (vb L1 0) 0))):Int)))))))) }),D.sl true 129 [] Tok.nil]),Blk.arr true 179 1 [D.agg [D.sl false 5 (List.drop (Int.toNat (w64 (D.int (vd L1 0)))) (D.items (D.cell (vb L1 0) 0))) Tok.non]])))))) (fun L1=>M.bad 154) fun L1=>M.bad 154) (M.br (w64 (D.int d0) == (3:Int)) (M.br false (M.pure (Rs.pan (D.ifc 33 (ik (10:Int))),Blk.arr true 179 1 [D.agg [sl 5 (List.drop 1 B)]])) (M.loop (115,0) (ls [D.p 2 0 0,D.v (Value.int IntKind.u64 (0:Int)),iv (0:Int)] [Blk.arr true 179 1 [D.agg [sl 5 (List.drop 1 B)]]]) (fun L1=>M.br (!decide (D.int (vd L1 0)≤IntKind.wrap IntKind.u64 (nI (List.length (D.items (D.cell (vb L1 0) 0)))))) (M.pure (Rs.pan (D.ifc 33 (ik (10:Int))),Blk.arr true 179 1 [D.agg [sl 5 (D.items (D.cell (vb L1 0) 0))]])) (M.bad 152)) (fun L1=>M.bad 154) fun L1=>M.bad 154)) (M.pure (Rs.pan (D.ifc 33 (ik (10:Int))),Blk.arr true 179 1 [D.agg [sl 5 (List.drop 1 B)]])))))))):=by kernel_rfl
theorem rd_lst(B R:List D)(w n i:Int):eDecd bVal (95,0) ⟨[.p 2 0 0,iv 0,.p 3 0 0,iv n,iv i],[.arr true 129 1 [.agg [iv 0,iv 0,.v (.string .empty),sl 129 []]],b1 33 (iv 0),.arr true 179 1 [.agg [sl 5 B]],.arr true 129 1 [.agg [iv w,iv 0,.v (.string .empty),.sl false 129 R (.tip 8)]],.tip 129],[]⟩=(M.br (decide (i<n)) (M.call 95 [D.p 2 0 0,iv (w64 ((0:Int)+(1:Int)))] [(179,D.agg [sl 5 B])] fun d0 o0=>M.need (decide (List.length R+(1:Nat)≤1099511627776)) (M.pure (none,(ls [D.p 2 0 0,iv (0:Int),D.p 3 0 0,iv n,iv (w64 (i+(1:Int)))] [Blk.arr true 129 1 [D.agg [iv (0:Int),iv (0:Int),D.v (Value.string { data:=#[] }),D.sl false 129 [] Tok.non]],b1 33 (iv (0:Int)),Blk.arr true 179 1 [D.agg [sl 5 (D.items (D.cell (List.getD o0 0 D.any) 0))]],Blk.arr true 129 1 [D.agg [iv w,iv (0:Int),D.v (Value.string { data:=#[] }),D.sl false 129 (R++[D.agg [iv (D.int (D.cell d0 0)),iv (D.int (D.cell d0 1)),D.v (Value.string (D.str (D.cell d0 2))),sl 129 (D.items (D.cell d0 3))]]) (Tok.tip 8)]],Blk.tip 129])))) (M.pure (some 0,(ls [D.p 2 0 0,D.p 3 0 0] [Blk.arr true 129 1 [D.agg [iv (0:Int),iv (0:Int),D.v (Value.string { data:=#[] }),D.sl false 129 [] Tok.non]],b1 33 (iv (0:Int)),Blk.arr true 179 1 [D.agg [sl 5 B]],Blk.arr true 129 1 [D.agg [iv w,iv (0:Int),D.v (Value.string { data:=#[] }),D.sl false 129 R (Tok.tip 8)]],Blk.tip 129])))):=by kernel_rfl
theorem t_decd(B:List D):callR (cNumb bVal) lDecd 71 [sl 5 B]=(M.br (!decide ((1:Int)≤nI (List.length B))) (M.pure (Rs.ret (D.tup [D.agg [ik (0:Int),ik (0:Int),D.k (Value.string { data:=#[] }),D.sl true 129 [] Tok.nil],ik (10:Int)]))) (M.need (decide ((0:Int)≤(0:Int)∧(0:Int)≤(1:Int)∧(1:Int)≤nI (List.length B)∧(1:Int)=(1:Int))) (M.need (decide ((0:Int)≤(1:Int)∧(1:Int)≤nI (List.length B)∧nI (List.length B)≤nI (List.length B))) (M.get (List.take 1 B) (0:Int) fun d0=>M.br (w64 (D.int d0) == (1:Int)) (M.loop (115,0) (ls [D.p 2 0 0,D.v (Value.int IntKind.u64 (0:Int)),iv (0:Int)] [Blk.arr true 179 1 [D.agg [sl 5 (List.drop 1 B)]]]) (fun L1=>M.br (!nI (List.length (D.items (D.cell (vb L1 0) 0))) == (0:Int)) (M.pure (Rs.ret (D.tup [D.agg [ik (0:Int),ik (0:Int),D.k (Value.string { data:=#[] }),D.sl true 129 [] Tok.nil],ik (10:Int)]))) (M.pure (Rs.ret (D.tup [D.agg [iv (w64 (D.int d0)),iv (w64 (nI (BitVec.toNat (BitVec.ofInt 64 (w64 (Int.fdiv (D.int (vd L1 0)) ((2:Int) ^ 1)))^^^BitVec.ofInt 64 (w64 (-w64 (IntKind.wrap IntKind.u64 (nI (BitVec.toNat (BitVec.ofInt 64 (D.int (vd L1 0))&&&BitVec.ofInt 64 (1:Int))))))))))),D.k (Value.string { data:=#[] }),D.sl true 129 [] Tok.nil],ik (0:Int)])))) (fun L1=>M.bad 154) fun L1=>M.bad 154) (M.br (w64 (D.int d0) == (2:Int)) (M.loop (115,0) (ls [D.p 2 0 0,D.v (Value.int IntKind.u64 (0:Int)),iv (0:Int)] [Blk.arr true 179 1 [D.agg [sl 5 (List.drop 1 B)]]]) (fun L1=>M.br (!decide (D.int (vd L1 0)≤IntKind.wrap IntKind.u64 (nI (List.length (D.items (D.cell (vb L1 0) 0)))))) (M.pure (Rs.ret (D.tup [D.agg [ik (0:Int),ik (0:Int),D.k (Value.string { data:=#[] }),D.sl true 129 [] Tok.nil],ik (10:Int)]))) (M.br (!decide (w64 (D.int (vd L1 0))≤nI (List.length (D.items (D.cell (vb L1 0) 0))))) (M.pure (Rs.ret (D.tup [D.agg [ik (0:Int),ik (0:Int),D.k (Value.string { data:=#[] }),D.sl true 129 [] Tok.nil],ik (10:Int)]))) (M.need (decide ((0:Int)≤(0:Int)∧(0:Int)≤w64 (D.int (vd L1 0))∧w64 (D.int (vd L1 0))≤nI (List.length (D.items (D.cell (vb L1 0) 0)))∧w64 (D.int (vd L1 0))=w64 (D.int (vd L1 0)))) (M.need (decide ((0:Int)≤w64 (D.int (vd L1 0))∧w64 (D.int (vd L1 0))≤nI (List.length (D.items (D.cell (vb L1 0) 0)))∧nI (List.length (D.items (D.cell (vb L1 0) 0)))≤nI (List.length (D.items (D.cell (vb L1 0) 0))))) (M.br (!nI (List.length (List.drop (Int.toNat (w64 (D.int (vd L1 0)))) (D.items (D.cell (vb L1 0) 0)))) == (0:Int)) (M.pure (Rs.ret (D.tup [D.agg [ik (0:Int),ik (0:Int),D.k (Value.string { data:=#[] }),D.sl true 129 [] Tok.nil],ik (10:Int)]))) (M.pure (Rs.ret (D.tup [D.agg [iv (w64 (D.int d0)),ik (0:Int),D.v (Value.string { data:=List.toArray (List.map (fun n=>UInt8.ofNat (Int.toNat n)) (List.map D.int (slcL (D.items (D.cell (vb L1 0) 0)) none (some (false,w64 (D.int (vd L1 0)))) (Int.toNat (Prod.snd (Option.getD none (true,(0:Int))))) (Int.toNat (Prod.snd (Option.getD (some (false,w64 (D.int (vd L1 0)))) (true,(↑(List.length (D.items (D.cell (vb L1 0) 0))):Int)))))))) }),D.sl true 129 [] Tok.nil],ik (0:Int)])))))))) (fun L1=>M.bad 154) fun L1=>M.bad 154) (M.br (w64 (D.int d0) == (3:Int)) (M.loop (115,0) (ls [D.p 2 0 0,D.v (Value.int IntKind.u64 (0:Int)),iv (0:Int)] [Blk.arr true 179 1 [D.agg [sl 5 (List.drop 1 B)]]]) (fun L1=>M.br (!decide (D.int (vd L1 0)≤IntKind.wrap IntKind.u64 (nI (List.length (D.items (D.cell (vb L1 0) 0)))))) (M.pure (Rs.ret (D.tup [D.agg [ik (0:Int),ik (0:Int),D.k (Value.string { data:=#[] }),D.sl true 129 [] Tok.nil],ik (10:Int)]))) (M.loop (95,0) (ls [D.p 2 0 0,iv (0:Int),D.p 3 0 0,iv (w64 (D.int (vd L1 0))),iv (0:Int)] [Blk.arr true 129 1 [D.agg [iv (0:Int),iv (0:Int),D.v (Value.string { data:=#[] }),D.sl false 129 [] Tok.non]],b1 33 (iv (0:Int)),Blk.arr true 179 1 [D.agg [sl 5 (D.items (D.cell (vb L1 0) 0))]],Blk.arr true 129 1 [D.agg [iv (w64 (D.int d0)),iv (0:Int),D.v (Value.string { data:=#[] }),D.sl false 129 [] (Tok.tip 8)]],Blk.tip 129]) (fun L2=>M.br (!nI (List.length (D.items (D.cell (vb L2 2) 0))) == (0:Int)) (M.pure (Rs.ret (D.tup [D.agg [ik (0:Int),ik (0:Int),D.k (Value.string { data:=#[] }),D.sl true 129 [] Tok.nil],ik (10:Int)]))) (M.pure (Rs.ret (D.tup [D.agg [iv (D.int (List.getD (D.cells (vb L2 3)) 0 D.any)),iv (D.int (List.getD (D.cells (vb L2 3)) 1 D.any)),D.v (Value.string (D.str (List.getD (D.cells (vb L2 3)) 2 D.any))),D.sl false 129 (D.items (List.getD (D.cells (vb L2 3)) 3 D.any)) (Tok.tip 8)],ik (0:Int)])))) (fun L2=>M.bad 154) fun L2=>M.bad 154)) (fun L1=>M.bad 154) fun L1=>M.bad 154) (M.pure (Rs.ret (D.tup [D.agg [ik (0:Int),ik (0:Int),D.k (Value.string { data:=#[] }),D.sl true 129 [] Tok.nil],ik (10:Int)]))))))))):=by kernel_rfl
theorem wrap_u8{x:Int}(h1:0≤x)(h2:x<256):IntKind.u8.wrap x=x:=by
 simp only [IntKind.wrap,IntKind.signed,IntKind.bits];simp;omega
theorem or128:((List.range 256).all fun a=>decide ((a|||128) % 128=a % 128∧128≤(a|||128)∧(a|||128)<256))=true:=by kernel_rfl
theorem or128'{a:Nat}(h:a<256):(a|||128) % 128=a % 128∧128≤(a|||128)∧(a|||128)<256 :=
 of_decide_eq_true (List.all_eq_true.1 or128 a (by simpa using h))
theorem dig{a:Nat}(h:a<256):IntKind.wrap .u64 (IntKind.wrap .u8 (nI ((BitVec.ofInt 8 (a:Int)&&&BitVec.ofInt 8 (127:Int)).toNat)))=((a % 128:Nat):Int):=by
 have e:(BitVec.ofInt 8 (a:Int)&&&BitVec.ofInt 8 (127:Int)).toNat=a % 128:=by
  rw [show(127:Int)=((127:Nat):Int) from rfl,BitVec.ofInt_natCast,BitVec.ofInt_natCast]
  simp only [BitVec.toNat_and,BitVec.toNat_ofNat]
  rw [show(127:Nat) % 2 ^ 8=2 ^ 7-1 from rfl,Nat.and_two_pow_sub_one_eq_mod]
  omega
 rw [e,wrap_u8 (by simp only [nI];omega) (by simp only [nI];omega),wrap_u64 (by simp only [nI];omega) (by simp only [nI];omega)]
theorem acc{x y:Nat}(hx:x<128)(hy:y<16384)(hz:(x|||y)<16384):IntKind.wrap .u64 (nI ((BitVec.ofInt 64 (x:Int)|||BitVec.ofInt 64 (y:Int)).toNat))=((x|||y:Nat):Int):=by
 have e:(BitVec.ofInt 64 (x:Int)|||BitVec.ofInt 64 (y:Int)).toNat=x|||y:=by
  rw [BitVec.ofInt_natCast,BitVec.ofInt_natCast]
  simp only [BitVec.toNat_or,BitVec.toNat_ofNat]
  rw [Nat.mod_eq_of_lt (by omega),Nat.mod_eq_of_lt (by omega)]
 rw [e,wrap_u64 (by simp only [nI];omega) (by simp only [nI];omega)]
theorem num1{a:Nat}(h:a<256):IntKind.wrap .u64 (nI ((BitVec.ofInt 64 (0:Int)|||BitVec.ofInt 64 (IntKind.wrap .u64 (IntKind.wrap .u64 (IntKind.wrap .u8 (nI ((BitVec.ofInt 8 (a:Int)&&&BitVec.ofInt 8 (127:Int)).toNat)))*(2:Int) ^ min (Int.toNat (w64 ((7:Int)*(0:Int)))) 64))).toNat))=((a % 128:Nat):Int):=by
 rw [dig h]
 have e1:min (Int.toNat (w64 ((7:Int)*(0:Int)))) 64=0:=by decide
 rw [e1,show((a % 128:Nat):Int)*(2:Int) ^ 0=((a % 128:Nat):Int) by omega,wrap_u64 (x:=((a % 128:Nat):Int)) (by omega) (by omega)]
 have:=acc (x:=0) (y:=a % 128) (by omega) (by omega) (by rw [Nat.zero_or];omega)
 rw [Nat.zero_or]at this
 exact this
theorem num2{x a:Nat}(hx:x<128)(h:a<128):IntKind.wrap .u64 (nI ((BitVec.ofInt 64 (x:Int)|||BitVec.ofInt 64 (IntKind.wrap .u64 (IntKind.wrap .u64 (IntKind.wrap .u8 (nI ((BitVec.ofInt 8 (a:Int)&&&BitVec.ofInt 8 (127:Int)).toNat)))*(2:Int) ^ min (Int.toNat (w64 ((7:Int)*(1:Int)))) 64))).toNat))=((a*128+x:Nat):Int):=by
 rw [dig (by omega)]
 have e1:min (Int.toNat (w64 ((7:Int)*(1:Int)))) 64=7:=by decide
 rw [e1,Nat.mod_eq_of_lt h,show((a:Nat):Int)*(2:Int) ^ 7=((a*128:Nat):Int) by omega,wrap_u64 (x:=((a*128:Nat):Int)) (by omega) (by omega)]
 have e2:x|||a*128=a*128+x:=by
  have:=Nat.two_pow_add_eq_or_of_lt (i:=7) (b:=x) (by omega) a
  rw [show 2 ^ 7*a=a*128 by omega]at this
  rw [this,Nat.or_comm]
 have:=acc (x:=x) (y:=a*128) hx (by omega) (by rw [e2];omega)
 rw [e2]at this
 exact this
abbrev bRd (B:List D):Blk:=.arr true 179 1 [.agg [sl 5 B]]
abbrev vu (n:Int):D:=.v (.int .u64 n)
theorem lp_done{E:LId→LSt→M Rd1}{Γ:Cn}{id:LId}{L L':LSt}{j:Nat}(h:Wp E Γ (E id L) fun r=>r=(some j,L')):Lp E Γ id L j L':=by
 obtain⟨r,h1,rfl⟩:=to_wp h
 exact .done h1
theorem lp_next{E:LId→LSt→M Rd1}{Γ:Cn}{id:LId}{L L1 L':LSt}{j:Nat}(h:Wp E Γ (E id L) fun r=>r=(none,L1))(h':Lp E Γ id L1 j L'):Lp E Γ id L j L':=by
 obtain⟨r,h1,rfl⟩:=to_wp h
 exact .next h1 h'
theorem take_c{x:D}{B:List D}:(!decide ((1:Int)≤nI (List.length (x::B))))=false∧decide ((0:Int)≤(0:Int)∧(0:Int)≤(1:Int)∧(1:Int)≤nI (List.length (x::B))∧(1:Int)=(1:Int))=true∧decide ((0:Int)≤(1:Int)∧(1:Int)≤nI (List.length (x::B))∧nI (List.length (x::B))≤nI (List.length (x::B)))=true:=by
 refine⟨?_,?_,?_⟩<;>simp [nI]<;>omega
theorem num_lp(base:Caller)(Γ:Cn)(u:Nat)(hu:u<16384)(B:List D):Lp (eDecd base) Γ (115,0) ⟨[.p 2 0 0,vu 0,iv 0],[bRd (eU u++B)],[]⟩ 0 ⟨[vu u],[bRd B],[]⟩:=by
 by_cases h:u<128
 ·have e:eU (u:Int)=[u8 u]:=by
   rw [eU_f (decide_eq_false (by omega)),wrap_u8 (by omega) (by omega)]
  rw [e]
  refine lp_done ?_
  show Wp _ _ (eDecd base (115,0) ⟨[.p 2 0 0,vu 0,iv 0],[.arr true 179 1 [.agg [sl 5 (u8 u::B)]]],[]⟩) _
  rw [rd_num]
  obtain⟨t1,t2,t3⟩:=take_c (x:=u8 (u:Int)) (B:=B)
  refine⟨(fun q=>by rw [t1]at q;cases q),fun _=>⟨t2,t3,Int.le_refl _,_,rfl,fun _=>⟨fun _=>⟨by decide,fun _=>?_,fun q=>?_⟩,fun q=>nomatch q⟩,fun q=>nomatch q⟩⟩
  ·have:=num1 (a:=u) (by omega)
   rw [Nat.mod_eq_of_lt h]at this
   show(some 0,LSt.mk [vu _] _ _)=_
   rw [show D.int (u8 (u:Int))=(u:Int) from rfl,this]
   rfl
  have q:=of_decide_eq_false q
  exact absurd (show(u:Int)<128 by omega) q
 have hu1:=or128' (a:=u % 256) (by omega)
 have e0:IntKind.wrap .u8 (u:Int)=((u % 256:Nat):Int):=by
  simp only [IntKind.wrap,IntKind.signed,IntKind.bits];simp
 have e1:IntKind.wrap .u8 (nI ((BitVec.ofInt 8 (IntKind.wrap .u8 (u:Int))|||BitVec.ofInt 8 128).toNat))=((u % 256|||128:Nat):Int):=by
  rw [e0]
  have:(BitVec.ofInt 8 ((u % 256:Nat):Int)|||BitVec.ofInt 8 (128:Int)).toNat=u % 256|||128:=by
   rw [show(128:Int)=((128:Nat):Int) from rfl,BitVec.ofInt_natCast,BitVec.ofInt_natCast]
   simp only [BitVec.toNat_or,BitVec.toNat_ofNat]
   rw [show(128:Nat) % 2 ^ 8=128 from rfl,show u % 256 % 2 ^ 8=u % 256 by omega]
  rw [this,wrap_u8 (by simp only [nI];omega) (by simp only [nI];omega)]
 have e2:IntKind.wrap .u8 (Int.fdiv (u:Int) ((2:Int) ^ 7))=((u / 128:Nat):Int):=by
  rw [Int.fdiv_eq_ediv_of_nonneg _ (by decide),show((u:Int) / (2:Int) ^ 7)=((u / 128:Nat):Int) by omega,wrap_u8 (by omega) (by omega)]
 have e:eU (u:Int)=[u8 ((u % 256|||128:Nat):Int),u8 ((u / 128:Nat):Int)]:=by
  rw [eU_t (decide_eq_true (by omega)),e1,e2]
 rw [e]
 generalize hc:(u % 256|||128)=c at hu1
 have hc2:c % 128=u % 128:=by omega
 refine lp_next (L1:=⟨[.p 2 0 0,vu ((u % 128:Nat):Int),iv 1],[bRd (u8 ((u / 128:Nat):Int)::B)],[]⟩) ?_ (lp_done ?_)
 ·show Wp _ _ (eDecd base (115,0) ⟨[.p 2 0 0,vu 0,iv 0],[.arr true 179 1 [.agg [sl 5 (u8 c::u8 ((u / 128:Nat):Int)::B)]]],[]⟩) _
  rw [rd_num]
  obtain⟨t1,t2,t3⟩:=take_c (x:=u8 (c:Int)) (B:=u8 ((u / 128:Nat):Int)::B)
  refine⟨(fun q=>by rw [t1]at q;cases q),fun _=>⟨t2,t3,Int.le_refl _,_,rfl,fun _=>⟨fun _=>⟨by decide,fun q=>?_,fun q=>?_⟩,fun q=>nomatch q⟩,fun q=>nomatch q⟩⟩
  ·have q:=of_decide_eq_true q
   exact absurd (show(c:Int)<128 from q) (by omega)
  ·have:=num1 (a:=c) (by omega)
   rw [hc2]at this
   show(none,LSt.mk [_,vu _,_] _ _)=_
   rw [show D.int (u8 (c:Int))=(c:Int) from rfl,this]
   rfl
 show Wp _ _ (eDecd base (115,0) ⟨[.p 2 0 0,vu ((u % 128:Nat):Int),iv 1],[.arr true 179 1 [.agg [sl 5 (u8 ((u / 128:Nat):Int)::B)]]],[]⟩) _
 rw [rd_num]
 obtain⟨t1,t2,t3⟩:=take_c (x:=u8 ((u / 128:Nat):Int)) (B:=B)
 refine⟨(fun q=>by rw [t1]at q;cases q),fun _=>⟨t2,t3,Int.le_refl _,_,rfl,(fun q=>nomatch q),fun _=>⟨fun _=>⟨fun _=>⟨by decide,fun _=>?_,fun q=>?_⟩,fun q=>nomatch q⟩,fun q=>?_⟩⟩⟩
 ·have:=num2 (x:=u % 128) (a:=u / 128) (by omega) (by omega)
  rw [show u / 128*128+u % 128=u by omega]at this
  show(some 0,LSt.mk [vu _] _ _)=_
  rw [show D.int (u8 ((u / 128:Nat):Int))=((u / 128:Nat):Int) from rfl,this]
  rfl
 ·have q:=of_decide_eq_false q
  exact absurd (show((u / 128:Nat):Int)<128 by omega) q
 have q:(((u / 128:Nat):Int) != 0)=false:=q
 simp at q
 omega
end Z
namespace Z
def rwGd:List CRow:=[⟨65,[.one (.sl 5)],.one (.one (.i .u64))⟩,⟨67,[.one (.sl 5),.one (.sl 5)],.one (.one .b)⟩,⟨69,[.one (.i .u64),kI,.one (.i .u8),.one (.sl 5)],.one (.one (.sl 5))⟩]
noncomputable def cGd:Cf:=cf [65,67,69] [] rwGd
theorem t_gd(s:List D)(n:Int):callR cGd [87] 87 [sl 5 s,iv n]=(M.get s (11:Int) fun d0=>M.br (decide (w64 (D.int d0)>(112:Int))) (M.pure (Rs.ret (bk false))) (M.get s (10:Int) fun d1=>M.br (decide (D.int d1>(3:Int))) (M.pure (Rs.ret (bk false))) (M.get s (10:Int) fun d2=>M.br (IntKind.wrap IntKind.u8 (nI (BitVec.toNat (BitVec.ofInt 8 (D.int d2)&&&BitVec.ofInt 8 (2:Int)))) == (0:Int)) (M.br (decide (w64 (D.int d0)<(112:Int))) (M.pure (Rs.ret (bk false))) (M.get s (10:Int) fun d3=>M.br (IntKind.wrap IntKind.u8 (nI (BitVec.toNat (BitVec.ofInt 8 (D.int d3)&&&BitVec.ofInt 8 (1:Int)))) == (0:Int)) (M.br (w64 (D.int d0) == (0:Int)) (M.pure (Rs.ret (bk false))) (M.need (decide ((0:Int)≤(0:Int)∧(0:Int)≤(4:Int)∧(4:Int)≤nI (List.length s))) (M.call 65 [sl 5 (List.take 4 s)] [] fun d4 o4=>M.br (decide (D.int d4>(0:Int))) (M.get s (10:Int) fun d5=>M.need (decide ((0:Int)≤(12:Int)∧(12:Int)≤w64 ((12:Int)+w64 (D.int d0))∧w64 ((12:Int)+w64 (D.int d0))≤nI (List.length s))) (M.call 69 [D.v (Value.int IntKind.u64 (D.int d4)),iv n,D.v (Value.int IntKind.u8 (D.int d5)),D.sl false 5 (List.take (Int.toNat (w64 ((12:Int)+w64 (D.int d0)))-12) (List.drop 12 s)) Tok.non] [] fun d6 o6=>M.call 67 [sl 5 s,sl 5 (D.items d6)] [] fun d7 o7=>M.pure (Rs.ret (bv (D.bool d7))))) (M.pure (Rs.ret (bk false)))))) (M.need (decide ((0:Int)≤(0:Int)∧(0:Int)≤(4:Int)∧(4:Int)≤nI (List.length s))) (M.call 65 [sl 5 (List.take 4 s)] [] fun d4 o4=>M.br (decide (D.int d4>(0:Int))) (M.get s (10:Int) fun d5=>M.need (decide ((0:Int)≤(12:Int)∧(12:Int)≤w64 ((12:Int)+w64 (D.int d0))∧w64 ((12:Int)+w64 (D.int d0))≤nI (List.length s))) (M.call 69 [D.v (Value.int IntKind.u64 (D.int d4)),iv n,D.v (Value.int IntKind.u8 (D.int d5)),D.sl false 5 (List.take (Int.toNat (w64 ((12:Int)+w64 (D.int d0)))-12) (List.drop 12 s)) Tok.non] [] fun d6 o6=>M.call 67 [sl 5 s,sl 5 (D.items d6)] [] fun d7 o7=>M.pure (Rs.ret (bv (D.bool d7))))) (M.pure (Rs.ret (bk false))))))) (M.get s (10:Int) fun d3=>M.br (IntKind.wrap IntKind.u8 (nI (BitVec.toNat (BitVec.ofInt 8 (D.int d3)&&&BitVec.ofInt 8 (1:Int)))) == (0:Int)) (M.br (w64 (D.int d0) == (0:Int)) (M.pure (Rs.ret (bk false))) (M.need (decide ((0:Int)≤(0:Int)∧(0:Int)≤(4:Int)∧(4:Int)≤nI (List.length s))) (M.call 65 [sl 5 (List.take 4 s)] [] fun d4 o4=>M.br (decide (D.int d4>(0:Int))) (M.get s (10:Int) fun d5=>M.need (decide ((0:Int)≤(12:Int)∧(12:Int)≤w64 ((12:Int)+w64 (D.int d0))∧w64 ((12:Int)+w64 (D.int d0))≤nI (List.length s))) (M.call 69 [D.v (Value.int IntKind.u64 (D.int d4)),iv n,D.v (Value.int IntKind.u8 (D.int d5)),D.sl false 5 (List.take (Int.toNat (w64 ((12:Int)+w64 (D.int d0)))-12) (List.drop 12 s)) Tok.non] [] fun d6 o6=>M.call 67 [sl 5 s,sl 5 (D.items d6)] [] fun d7 o7=>M.pure (Rs.ret (bv (D.bool d7))))) (M.pure (Rs.ret (bk false)))))) (M.need (decide ((0:Int)≤(0:Int)∧(0:Int)≤(4:Int)∧(4:Int)≤nI (List.length s))) (M.call 65 [sl 5 (List.take 4 s)] [] fun d4 o4=>M.br (decide (D.int d4>(0:Int))) (M.get s (10:Int) fun d5=>M.need (decide ((0:Int)≤(12:Int)∧(12:Int)≤w64 ((12:Int)+w64 (D.int d0))∧w64 ((12:Int)+w64 (D.int d0))≤nI (List.length s))) (M.call 69 [D.v (Value.int IntKind.u64 (D.int d4)),iv n,D.v (Value.int IntKind.u8 (D.int d5)),D.sl false 5 (List.take (Int.toNat (w64 ((12:Int)+w64 (D.int d0)))-12) (List.drop 12 s)) Tok.non] [] fun d6 o6=>M.call 67 [sl 5 s,sl 5 (D.items d6)] [] fun d7 o7=>M.pure (Rs.ret (bv (D.bool d7))))) (M.pure (Rs.ret (bk false))))))))):=by kernel_rfl
def conEs:Con PP:=⟨69,[.one (.i .u64),kI,.one (.i .u8),.one (.sl 5)],.one (.one (.sl 5)),fun args d=>∃ (g n k:Int) (b:List D),b.length≤112∧b.map D.vv=b∧args=[.v (.int .u64 g),iv n,u8 k,sl 5 b]∧d=sl 5 (encS g n k b),fun args d ⟨g,n,k,b,hb,hv,ha,hd⟩ h=>by subst ha;subst hd;exact es_ok g n k b hb hv h⟩
theorem by_vv{b:List D}(h:By b):b.map D.vv=b:=by
 induction b with
 | nil=>rfl
 | cons d b ih =>
  obtain⟨n,_,rfl⟩:=h d (List.mem_cons_self ..)
  rw [List.map_cons,ih fun d hd=>h d (List.mem_cons_of_mem _ hd)]
  rfl
theorem wrap8(x:Int):∃ n:Nat,n<256∧IntKind.wrap .u8 x=(n:Int):=by
 have h:IntKind.wrap .u8 x=x % 256:=by simp only [IntKind.wrap,IntKind.signed,IntKind.bits];simp
 refine⟨(x % 256).toNat,by omega,?_⟩
 rw [h];omega
theorem by_app{a b:List D}(ha:By a)(hb:By b):By (a++b):=fun d hd=>(List.mem_append.1 hd).elim (ha d) (hb d)
theorem by_cons{n:Nat}{b:List D}(hn:n<256)(hb:By b):By (u8 n::b):=fun d hd=>by
 rcases List.mem_cons.1 hd with rfl|hd
 ·exact⟨n,hn,rfl⟩
 exact hb d hd
theorem by_bw{x:Int}{s:Nat}{b:List D}(hb:By b):By (bw x s::b):=fun d hd=>by
 rcases List.mem_cons.1 hd with rfl|hd
 ·obtain⟨n,hn,he⟩:=wrap8 (Int.fdiv x ((2:Int) ^ s))
  exact⟨n,hn,by show D.v (.int .u8 _)=_;rw [he]⟩
 exact hb d hd
theorem by_nil:By []:=fun d hd=>nomatch hd
theorem by_zero(n:Nat):By (List.replicate n (u8 0)):=fun d hd=>⟨0,by decide,(List.mem_replicate.1 hd).2⟩
theorem by_by4(x:Int):By (by4 x):=by_bw (by_bw (by_bw (by_bw by_nil)))
theorem by_body(n:Int){b:List D}(hb:By b):By (bodyS n 3 b):=by
 refine by_app (by_app (by_bw (by_bw (by_cons (n:=3) (by decide) ?_))) hb) (by_zero _)
 obtain⟨m,hm,he⟩:=wrap8 (nI (List.length b))
 rw [he]
 exact by_cons hm by_nil
theorem by_enc(g n:Int){b:List D}(hb:By b):By (encS g n 3 b):=by_app (by_app (by_app (by_by4 g) (by_by4 _)) (by_body n hb)) (by_by4 g)
theorem encS_cons(g n k:Int)(b:List D):encS g n k b=bw g 24::bw g 16::bw g 8::bw g 0::bw (IntKind.wrap .u64 (crc (bodyS n k b))) 24::bw (IntKind.wrap .u64 (crc (bodyS n k b))) 16::bw (IntKind.wrap .u64 (crc (bodyS n k b))) 8::bw (IntKind.wrap .u64 (crc (bodyS n k b))) 0::bw (IntKind.wrap .u64 n) 8::bw (IntKind.wrap .u64 n) 0::u8 k::u8 (IntKind.wrap .u8 (nI (List.length b)))::(b++(List.replicate (112-b.length) (u8 0)++by4 g)):=by
 unfold encS bodyS
 simp only [List.append_assoc,List.cons_append,List.nil_append]
theorem encS_len(g n k:Int)(b:List D)(hb:b.length≤112):(encS g n k b).length=128:=by
 rw [encS_cons]
 simp only [List.length_cons,List.length_append,List.length_replicate,List.length_nil]
 omega
theorem put4_by(g:Nat):by4 (g:Int)=put4 g:=by
 have h:∀ s:Nat,bw (g:Int) s=u8 ((g / 2 ^ s % 256:Nat):Int):=fun s=>by
  have h1:IntKind.wrap .u8 (Int.fdiv (g:Int) ((2:Int) ^ s))=((g / 2 ^ s % 256:Nat):Int):=by
   rw [Int.fdiv_eq_ediv_of_nonneg _ (by exact Int.le_of_lt (Int.pow_pos (by decide)))]
   simp only [IntKind.wrap,IntKind.signed,IntKind.bits]
   simp
  show D.v (.int .u8 _)=_
  rw [h1]
 show [bw (g:Int) 24,bw (g:Int) 16,bw (g:Int) 8,bw (g:Int) 0]=_
 rw [h,h,h,h]
 unfold put4
 simp
abbrev gGd:List (Con PP):=[conGet,conEq,conEs]
theorem gd_any(g:Nat)(n:Int)(b s:List D)(hg:0<g)(hg2:g<4294967296)(hb:By b)(hl:b.length≤50)(hs:By s)(hlen:s.length=128)(h64:s.take 64=(encS g n 3 b).take 64)(h:Heap):CallSd PP 87 [sl 5 s,iv n] h (.ret (bv (eqLs s (encS g n 3 b)))) h:=by
 refine con_of (E:=E0) (Γ:=consΓ gGd) (C:=cGd) (l:=[87]) (.one (.one .b)) (show CallOk PP E0 (consΓ gGd) (cons PP rwGd) from cons_ok rfl) (named_plain (by kernel_rfl) (NamedT.nil (P:=PP))) rfl rfl rfl (to_wp ?_) h
 rw [t_gd]
 have hat:∀ i,i<64→s[i]?=(encS g n 3 b)[i]?:=fun i hi=>by
  have:=congrArg (fun l:List D=>l[i]?) h64
  simp only [List.getElem?_take]at this
  rwa [if_pos hi,if_pos hi]at this
 have h10:s[10]?=some (u8 3):=by rw [hat 10 (by decide),encS_cons];rfl
 have h11:s[11]?=some (u8 (b.length:Int)):=by
  rw [hat 11 (by decide),encS_cons]
  show some (u8 (IntKind.wrap .u8 (nI b.length)))=_
  rw [wrap_u8 (by simp only [nI];omega) (by simp only [nI];omega)]
 have hw:w64 (b.length:Int)=(b.length:Int):=w64_id (by omega) (by omega)
 have hw2:w64 ((12:Int)+(b.length:Int))=(12:Int)+(b.length:Int):=w64_id (by omega) (by omega)
 have h4:s.take 4=put4 g:=by
  have:=congrArg (List.take 4) h64
  rw [List.take_take,List.take_take]at this
  rw [show min 4 64=4 from rfl]at this
  rw [this,encS_cons,← put4_by]
  rfl
 have h12:List.take (Int.toNat (w64 ((12:Int)+w64 (b.length:Int)))-12) (List.drop 12 s)=b:=by
  rw [hw,hw2,show Int.toNat ((12:Int)+(b.length:Int))-12=b.length by omega]
  have h1:=congrArg (fun l=>List.take b.length (List.drop 12 l)) h64
  rw [List.drop_take,List.drop_take,List.take_take,List.take_take,Nat.min_eq_left (by omega)]at h1
  rw [h1,encS_cons]
  show List.take b.length (b++_)=b
  rw [List.take_left]
 have hn1:decide ((0:Int)≤(0:Int)∧(0:Int)≤(4:Int)∧(4:Int)≤nI (List.length s))=true:=by rw [hlen];decide
 have hn2:decide ((0:Int)≤(12:Int)∧(12:Int)≤w64 ((12:Int)+w64 (b.length:Int))∧w64 ((12:Int)+w64 (b.length:Int))≤nI (List.length s))=true:=by
  rw [hw,hw2,hlen]
  exact decide_eq_true ⟨by omega,by omega,by simp only [nI];omega⟩
 refine⟨by decide,_,h11,fun q=>?_,fun _=>⟨by decide,_,h10,(fun q=>absurd q (by decide)),fun _=>⟨by decide,_,h10,(fun q=>absurd q (by decide)),fun _=>⟨by decide,_,h10,(fun q=>absurd q (by decide)),fun _=>⟨hn1,.v (.int .u64 g),[],⟨conGet,rfl,_,⟨g,hg2,by rw [h4],rfl⟩,rfl⟩,fun _=>⟨by decide,_,h10,hn2,sl 5 (encS g n 3 b),[],⟨conEs,rfl,_,⟨g,n,3,b,by omega,by_vv hb,?_,rfl⟩,rfl⟩,bv (eqLs s (encS g n 3 b)),[],⟨conEq,rfl,_,⟨s,encS g n 3 b,hs,by_enc g n hb,rfl,rfl⟩,rfl⟩,_,_,rfl,rfl,rfl⟩,fun q=>?_⟩⟩⟩⟩⟩
 ·have q:=of_decide_eq_true q
  have q:w64 (b.length:Int)>112:=q
  rw [hw]at q
  omega
 ·show [_,_,_,D.sl false 5 (List.take (Int.toNat (w64 ((12:Int)+w64 (b.length:Int)))-12) (List.drop 12 s)) .non]=_
  rw [h12]
  rfl
 have q:=of_decide_eq_false q
 exact absurd (show((g:Nat):Int)>0 by omega) q
theorem gd_zero(n:Int)(h:Heap):CallSd PP 87 [sl 5 (List.replicate 128 (u8 0)),iv n] h (.ret (bv false)) h:=by
 refine con_of (E:=E0) (Γ:=consΓ gGd) (C:=cGd) (l:=[87]) (.one (.one .b)) (show CallOk PP E0 (consΓ gGd) (cons PP rwGd) from cons_ok rfl) (named_plain (by kernel_rfl) (NamedT.nil (P:=PP))) rfl rfl rfl (to_wp ?_) h
 rw [t_gd]
 have hat:∀ i:Nat,i<128→(List.replicate 128 (u8 0))[i]?=some (u8 0):=fun i hi=>by rw [List.getElem?_replicate,if_pos hi]
 exact⟨by decide,_,hat 11 (by decide),(fun q=>absurd q (by decide)),fun _=>⟨by decide,_,hat 10 (by decide),(fun q=>absurd q (by decide)),fun _=>⟨by decide,_,hat 10 (by decide),fun _=>⟨fun _=>⟨_,_,rfl,rfl,rfl⟩,fun q=>absurd q (by decide)⟩,fun q=>absurd q (by decide)⟩⟩⟩
def tornS(g n:Int)(b:List D):List D:=(encS g n 3 b).take 64++List.replicate 64 (u8 0)
theorem torn_ne(g:Nat)(n:Int)(b:List D)(hg:0<g)(hg2:g<4294967296)(hl:b.length≤50):tornS g n b≠encS g n 3 b:=fun h=>by
 have hE:=encS_len g n 3 b (by omega)
 have h1:(tornS g n b).drop 124=(encS g n 3 b).drop 124:=by rw [h]
 have h2:(encS g n 3 b).drop 124=put4 g:=by
  rw [← put4_by]
  unfold encS
  rw [List.drop_append_of_le_length (by simp [bodyS];omega),List.drop_of_length_le (by simp [bodyS];omega)]
  rfl
 have h3:(tornS g n b).drop 124=List.replicate 4 (u8 0):=by
  unfold tornS
  rw [List.drop_append,List.drop_of_length_le (by rw [List.length_take];omega),List.length_take,hE,List.drop_replicate]
  rfl
 rw [h3,h2]at h1
 unfold put4 at h1
 simp only [List.replicate,List.cons.injEq,D.v.injEq,Value.int.injEq,true_and,and_true]at h1
 omega
theorem gd_torn(g:Nat)(n:Int)(b:List D)(hg:0<g)(hg2:g<4294967296)(hb:By b)(hl:b.length≤50)(h:Heap):CallSd PP 87 [sl 5 (tornS g n b),iv n] h (.ret (bv false)) h:=by
 have hE:=encS_len g n 3 b (by omega)
 have:=gd_any g n b (tornS g n b) hg hg2 hb hl (by_app (fun d hd=>by_enc g n hb d (List.mem_of_mem_take hd)) (by_zero _)) (by unfold tornS;rw [List.length_append,List.length_take,hE,List.length_replicate];rfl) (by unfold tornS;rw [List.take_append_of_le_length (by rw [List.length_take,hE];decide),List.take_take];rfl) h
 have e:eqLs (tornS g n b) (encS g n 3 b)=false:=by
  classical
  unfold eqLs
  exact decide_eq_false (torn_ne g n b hg hg2 hl)
 rwa [e]at this
theorem gd_good(g:Nat)(n:Int)(b:List D)(hg:0<g)(hg2:g<4294967296)(hb:By b)(hl:b.length≤50)(h:Heap):CallSd PP 87 [sl 5 (encS g n 3 b),iv n] h (.ret (bv true)) h:=by
 have:=gd_any g n b (encS g n 3 b) hg hg2 hb hl (by_enc g n hb) (encS_len g n 3 b (by omega)) rfl h
 have e:eqLs (encS g n 3 b) (encS g n 3 b)=true:=by
  classical
  unfold eqLs
  exact decide_eq_true rfl
 rwa [e]at this
end Z
namespace Z
structure Wr where
 pos:Int
 da:List D
structure Di where
 se:List (List D)
 pe:List Wr
 left:Int
 stop:Bool
abbrev dSe (s:List D):D:=.sl false 5 s .non
def dWr(w:Wr):D:=.agg [iv w.pos,.sl false 5 w.da .non]
def dDi(d:Di):D:=.agg [.sl false 57 (d.se.map dSe) .non,.sl false 164 (d.pe.map dWr) .non,iv d.left,bv d.stop]
def kDi:SK0:=.row [.sl 57,.sl 164,.i .i64,.b]
def nDk:List (Nat×BK):=[(0,.each 39 1 [.el kDi]),(1,.each 3 1 [sI])]
def gDk1:LCfg:=⟨19,10,10,⟨[(0,.el (.one (.sl 164))),(1,.fix (.fn (.func 81) [] [.p 1 0 0])),(7,sI),(8,sI)],nDk⟩,[(.exit 0,⟨[],nDk⟩),(.ret,⟨[(4,sI)],nDk⟩)]⟩
def gDk2:LCfg:=⟨19,10,10,⟨[(0,.el (.one (.sl 57))),(1,.fix (.fn (.func 85) [] [])),(7,sI),(8,sI)],nDk⟩,[(.exit 0,⟨[],nDk⟩),(.ret,⟨[(4,sI)],nDk⟩)]⟩
noncomputable def cDk:Cf:=cf [] [⟨110,0,2,(110,0),gDk1⟩,⟨111,0,2,(111,0),gDk2⟩] []
noncomputable abbrev lDk:List FuncId:=[57,83,84,110,111,81,85,82]
noncomputable def eDk:LId→LSt→M Rd1:=fun id L=>if id=(110,0)then gDk1.round PP (kitF PP cDk (callT PP cDk [111,81,85,82]) yh0 110) (lcode 110 0) L else gDk2.round PP (kitF PP cDk (callT PP cDk [81,85,82]) yh0 111) (lcode 111 0) L
theorem t_dk(d:Di):callR cDk lDk 57 [dDi d]=(M.br (decide (nI (List.length (List.map dSe d.1))<(1:Int))) (M.pure (Rs.ret (ik (40:Int)))) (M.br (decide (nI (List.length (List.map dSe d.1))>(4096:Int))) (M.pure (Rs.ret (ik (40:Int)))) (M.br (decide (nI (List.length (List.map dWr d.2))>(4096:Int))) (M.pure (Rs.ret (ik (40:Int)))) (M.br (decide (d.3<(-1:Int))) (M.pure (Rs.ret (ik (40:Int)))) (M.br (decide (d.3>(65536:Int))) (M.pure (Rs.ret (ik (40:Int)))) (M.loop (110,0) (ls [sl 164 (List.map dWr d.2),D.fn (Fn.func 81) [] [D.p 1 0 0],iv (nI (List.length (List.map dWr d.2))),iv (0:Int)] [Blk.arr true 39 1 [D.agg [sl 57 (List.map dSe d.1),sl 164 (List.map dWr d.2),iv d.3,bv d.4]],b1 3 (iv (nI (List.length (List.map dSe d.1))))]) (fun L0=>M.loop (111,0) (ls [sl 57 (D.items (D.cell (vb L0 0) 0)),D.fn (Fn.func 85) [] [],iv (nI (List.length (D.items (D.cell (vb L0 0) 0)))),iv (0:Int)] [Blk.arr true 39 1 [D.agg [sl 57 (D.items (D.cell (vb L0 0) 0)),sl 164 (D.items (D.cell (vb L0 0) 1)),iv (D.int (D.cell (vb L0 0) 2)),bv (D.bool (D.cell (vb L0 0) 3))]],b1 3 (iv (D.int (vb L0 1)))]) (fun L1=>M.pure (Rs.ret (ik (0:Int)))) (fun L1=>M.br (decide (D.int (vd L1 0)≥(0:Int))) (M.pure (Rs.ret (ik (40:Int)))) (M.pure (Rs.ret (ik (0:Int))))) fun L1=>M.bad 154) (fun L0=>M.br (decide (D.int (vd L0 0)≥(0:Int))) (M.pure (Rs.ret (ik (40:Int)))) (M.loop (111,0) (ls [sl 57 (D.items (D.cell (vb L0 0) 0)),D.fn (Fn.func 85) [] [],iv (nI (List.length (D.items (D.cell (vb L0 0) 0)))),iv (0:Int)] [Blk.arr true 39 1 [D.agg [sl 57 (D.items (D.cell (vb L0 0) 0)),sl 164 (D.items (D.cell (vb L0 0) 1)),iv (D.int (D.cell (vb L0 0) 2)),bv (D.bool (D.cell (vb L0 0) 3))]],b1 3 (iv (D.int (vb L0 1)))]) (fun L1=>M.pure (Rs.ret (ik (0:Int)))) (fun L1=>M.br (decide (D.int (vd L1 0)≥(0:Int))) (M.pure (Rs.ret (ik (40:Int)))) (M.pure (Rs.ret (ik (0:Int))))) fun L1=>M.bad 154)) fun L0=>M.bad 154)))))):=by kernel_rfl
theorem rd_dk1(d:Di)(l:List Wr)(m n i:Int):eDk (110,0) ⟨[sl 164 (l.map dWr),.fn (.func 81) [] [.p 1 0 0],iv n,iv i],[.arr true 39 1 [dDi d],b1 3 (iv m)],[]⟩=(M.br (decide (i<n)) (M.get (List.map dWr l) i fun d0=>M.br (decide (D.int (D.cell d0 0)<(0:Int))) (M.pure (some 1,(ls [iv i] [Blk.arr true 39 1 [D.agg [sl 57 (List.map dSe d.1),sl 164 (List.map dWr d.2),iv d.3,bv d.4]],b1 3 (iv m)]))) (M.br (decide (D.int (D.cell d0 0)≥m)) (M.pure (some 1,(ls [iv i] [Blk.arr true 39 1 [D.agg [sl 57 (List.map dSe d.1),sl 164 (List.map dWr d.2),iv d.3,bv d.4]],b1 3 (iv m)]))) (M.br (!nI (List.length (D.items (D.cell d0 1))) == (128:Int)) (M.pure (some 1,(ls [iv i] [Blk.arr true 39 1 [D.agg [sl 57 (List.map dSe d.1),sl 164 (List.map dWr d.2),iv d.3,bv d.4]],b1 3 (iv m)]))) (M.pure (none,(ls [sl 164 (List.map dWr l),D.fn (Fn.func 81) [] [D.p 1 0 0],iv n,iv (w64 (i+(1:Int)))] [Blk.arr true 39 1 [D.agg [sl 57 (List.map dSe d.1),sl 164 (List.map dWr d.2),iv d.3,bv d.4]],b1 3 (iv m)])))))) (M.pure (some 0,(ls [] [Blk.arr true 39 1 [D.agg [sl 57 (List.map dSe d.1),sl 164 (List.map dWr d.2),iv d.3,bv d.4]],b1 3 (iv m)])))):=by kernel_rfl
theorem rd_dk2(d:Di)(l:List (List D))(m n i:Int):eDk (111,0) ⟨[sl 57 (l.map dSe),.fn (.func 85) [] [],iv n,iv i],[.arr true 39 1 [dDi d],b1 3 (iv m)],[]⟩=(M.br (decide (i<n)) (M.get (List.map dSe l) i fun d0=>M.br (!nI (List.length (D.items d0)) == (128:Int)) (M.pure (some 1,(ls [iv i] [Blk.arr true 39 1 [D.agg [sl 57 (List.map dSe d.1),sl 164 (List.map dWr d.2),iv d.3,bv d.4]],b1 3 (iv m)]))) (M.pure (none,(ls [sl 57 (List.map dSe l),D.fn (Fn.func 85) [] [],iv n,iv (w64 (i+(1:Int)))] [Blk.arr true 39 1 [D.agg [sl 57 (List.map dSe d.1),sl 164 (List.map dWr d.2),iv d.3,bv d.4]],b1 3 (iv m)])))) (M.pure (some 0,(ls [] [Blk.arr true 39 1 [D.agg [sl 57 (List.map dSe d.1),sl 164 (List.map dWr d.2),iv d.3,bv d.4]],b1 3 (iv m)])))):=by kernel_rfl
structure DOk(d:Di):Prop where
 n1:1≤d.se.length
 n2:d.se.length≤4096
 p:d.pe.length≤4096
 l1 : -1≤d.left
 l2:d.left≤65536
 s:∀ s∈d.se,s.length=128
 w:∀ w∈d.pe,0≤w.pos∧w.pos<d.se.length∧w.da.length=128
abbrev bDk (d:Di):List Blk:=[.arr true 39 1 [dDi d],b1 3 (iv d.se.length)]
theorem dk1_lp{Γ:Cn}(d:Di)(hd:DOk d):∃ j L,Lp eDk Γ (110,0) ⟨[sl 164 (d.pe.map dWr),.fn (.func 81) [] [.p 1 0 0],iv d.pe.length,iv (((0:Nat)):Int)],bDk d,[]⟩ j L∧j=0∧L=⟨[],bDk d,[]⟩:=by
 have hp:=hd.p
 refine lp_up (σ:=Unit) (fun i _=>⟨[sl 164 (d.pe.map dWr),.fn (.func 81) [] [.p 1 0 0],iv d.pe.length,iv ((i:Nat):Int)],bDk d,[]⟩) d.pe.length (fun _ _=>True) _ (fun i _ hi _=>?_) (fun _ _=>?_) (s:=()) trivial
 ·rw [rd_dk1]
  obtain⟨w1,w2,w3⟩:=hd.w (d.pe[i]'hi) (List.getElem_mem hi)
  have hg:(d.pe.map dWr)[((i:Nat):Int).toNat]?=some (dWr (d.pe[i]'hi)):=by
   rw [Int.toNat_natCast,List.getElem?_map,List.getElem?_eq_getElem hi];rfl
  refine⟨fun _=>⟨by omega,_,hg,fun q=>absurd (of_decide_eq_true q) ?_,fun _=>⟨fun q=>absurd (of_decide_eq_true q) ?_,fun _=>⟨fun q=>?_,fun _=>.inl ⟨(),(by rw [w64_id (by omega) (by omega)];rfl),trivial⟩⟩⟩⟩,fun h=>absurd (of_decide_eq_false h) (by omega)⟩
  ·exact fun h=>absurd (show(d.pe[i]'hi).pos<0 from h) (by omega)
  ·exact fun h=>absurd (show(d.pe[i]'hi).pos≥(d.se.length:Int) from h) (by omega)
  have q:(!(((d.pe[i]'hi).da.length:Int) == 128))=true:=q
  rw [w3]at q;cases q
 rw [rd_dk1]
 exact⟨fun h=>absurd (of_decide_eq_true h) (by omega),fun _=>⟨0,_,rfl,rfl,rfl⟩⟩
theorem dk2_lp{Γ:Cn}(d:Di)(hd:DOk d):∃ j L,Lp eDk Γ (111,0) ⟨[sl 57 (d.se.map dSe),.fn (.func 85) [] [],iv d.se.length,iv (((0:Nat)):Int)],bDk d,[]⟩ j L∧j=0∧L=⟨[],bDk d,[]⟩:=by
 have hp:=hd.n2
 refine lp_up (σ:=Unit) (fun i _=>⟨[sl 57 (d.se.map dSe),.fn (.func 85) [] [],iv d.se.length,iv ((i:Nat):Int)],bDk d,[]⟩) d.se.length (fun _ _=>True) _ (fun i _ hi _=>?_) (fun _ _=>?_) (s:=()) trivial
 ·rw [rd_dk2]
  have w3:=hd.s (d.se[i]'hi) (List.getElem_mem hi)
  have hg:(d.se.map dSe)[((i:Nat):Int).toNat]?=some (dSe (d.se[i]'hi)):=by
   rw [Int.toNat_natCast,List.getElem?_map,List.getElem?_eq_getElem hi];rfl
  refine⟨fun _=>⟨by omega,_,hg,fun q=>?_,fun _=>.inl ⟨(),(by rw [w64_id (by omega) (by omega)];rfl),trivial⟩⟩,fun h=>absurd (of_decide_eq_false h) (by omega)⟩
  have q:(!(((d.se[i]'hi).length:Int) == 128))=true:=q
  rw [w3]at q;cases q
 rw [rd_dk2]
 exact⟨fun h=>absurd (of_decide_eq_true h) (by omega),fun _=>⟨0,_,rfl,rfl,rfl⟩⟩
theorem named_dk:NamedT eDk PP cDk lDk yh0 :=
 named_plain (by kernel_rfl) (named_plain (by kernel_rfl) (named_plain (by kernel_rfl) (named_loop (id0:=(110,0)) (by kernel_rfl) (by kernel_rfl) (by kernel_rfl) (fun s=>by kernel_rfl) (fun L=>rfl) (named_loop (id0:=(111,0)) (by kernel_rfl) (by kernel_rfl) (by kernel_rfl) (fun s=>by kernel_rfl) (fun L=>rfl) (named_all (List.all_eq_true.1 (by kernel_rfl:[81,85,82].all plainB=true)))))))
theorem dk_ok(d:Di)(hd:DOk d)(h:Heap):CallSd PP 57 [dDi d] h (.ret (iv 0)) h:=by
 refine con_of (E:=eDk) (Γ:=consΓ (P:=PP) []) (C:=cDk) (l:=lDk) (.one kI) (cons_ok rfl) named_dk rfl rfl rfl (to_wp ?_) h
 rw [t_dk]
 have h1:=hd.n1
 have h2:=hd.n2
 have h3:=hd.p
 have h4:=hd.l1
 have h5:=hd.l2
 have e1:nI (d.se.map dSe).length=(d.se.length:Int):=by rw [List.length_map]
 have e2:nI (d.pe.map dWr).length=(d.pe.length:Int):=by rw [List.length_map]
 rw [e1,e2]
 obtain⟨_,_,g1,rfl,rfl⟩:=dk1_lp (Γ:=consΓ (P:=PP) []) d hd
 obtain⟨_,_,g2,rfl,rfl⟩:=dk2_lp (Γ:=consΓ (P:=PP) []) d hd
 refine⟨fun q=>absurd (of_decide_eq_true q) (by omega),fun _=>⟨fun q=>absurd (of_decide_eq_true q) (by omega),fun _=>⟨fun q=>absurd (of_decide_eq_true q) (by omega),fun _=>⟨fun q=>absurd (of_decide_eq_true q) (by omega),fun _=>⟨fun q=>absurd (of_decide_eq_true q) (by omega),fun _=>.inl ⟨⟨[],bDk d,[]⟩,g1,.inl ⟨⟨[],bDk d,[]⟩,?_,_,_,rfl,rfl,rfl⟩⟩⟩⟩⟩⟩⟩
 show Lp eDk _ (111,0) ⟨[sl 57 (d.se.map dSe),.fn (.func 85) [] [],iv (nI (d.se.map dSe).length),iv 0],bDk d,[]⟩ 0 _
 rw [e1]
 exact g2
def conDk:Con PP:=⟨57,[kDi],.one kI,fun args r=>∃ d,DOk d∧args=[dDi d]∧r=iv 0,fun args r ⟨d,hd,ha,hr⟩ h=>by subst ha;subst hr;exact dk_ok d hd h⟩
end Z
namespace Z
def nOp(st:LoopState)(pe:PE):List (Nat×BK):=[(0,.each 39 1 [.el kDi]),(1,.each 98 1 [.xt true [(some 8,.sl 57),(none,.i .i64),(none,.i .i64)]]),(2,.each 36 1 [.el (.one (.sl 57))]),(3,.mk),(4,.rc 34 41 [(1,.fix (.p 0 0 0)),(2,.fix (.p 1 0 0)),(3,.fix (ik 0))] st pe),(8,.tip 57)]
def gOp:LCfg:=⟨77,8,9,⟨[(0,.fix (.y 4)),(1,.fix (.p 2 0 0)),(3,sI),(4,.el (.one (.i .u64)))],nOp .ready .non⟩,[(.ret,⟨[],nOp .ready .non⟩)]⟩
def rwOp:List CRow:=[⟨57,[kDi],.one kI⟩,⟨65,[.one (.sl 5)],.one (.one (.i .u64))⟩,⟨87,[.one (.sl 5),kI],.one kB⟩]
noncomputable def cOp:Cf:=cff (fun _=>1) [57,65,87] [] [] [⟨86,34,1,(86,0),gOp⟩] rwOp
noncomputable def eOp:LId→LSt→M Rd1:=fun id L=>gOp.round PP (kitF PP cOp (callT PP cOp []) (yhF PP cOp (callT PP cOp [58,86] yh0) yh0.run 34) 86) (lcode 86 0) L
theorem t_op(d:Di):callR cOp [34,58,86] 34 [dDi d]=(M.call 57 [dDi d] [] fun d0 o0=>M.br (D.int d0 != (0:Int)) (M.pure (Rs.ret (D.tup [D.agg [D.sl true 57 [] Tok.nil,ik (0:Int),ik (0:Int)],iv (D.int d0)]))) (M.br d.4 (M.pure (Rs.ret (D.tup [D.agg [D.sl true 57 [] Tok.nil,ik (0:Int),ik (0:Int)],ik (40:Int)]))) (M.br (decide (nI (List.length (List.map dWr d.2))>(0:Int))) (M.pure (Rs.ret (D.tup [D.agg [D.sl true 57 [] Tok.nil,ik (0:Int),ik (0:Int)],ik (1:Int)]))) (M.loop (86,0) (ls [D.y 4,D.p 2 0 0,iv (0:Int),D.v (Value.int IntKind.u64 (0:Int))] [Blk.arr true 39 1 [dDi d],Blk.arr true 98 1 [D.agg [D.sl false 57 [] (Tok.tip 8),iv (nI (List.length (List.map dSe d.1))),iv (0:Int)]],Blk.arr true 36 1 [sl 57 (List.map dSe d.1)],Blk.mk,Blk.rc 34 [D.p 0 0 0,D.p 1 0 0,ik (0:Int)] LoopState.ready PE.non,Blk.tip 57]) (fun L1=>M.pure (Rs.ret (D.tup [D.agg [D.sl false 57 (D.items (List.getD (D.cells (vb L1 1)) 0 D.any)) (Tok.tip 8),iv (D.int (List.getD (D.cells (vb L1 1)) 1 D.any)),iv (nI (List.length (D.items (List.getD (D.cells (vb L1 1)) 0 D.any))))],ik (0:Int)]))) (fun L1=>M.bad 154) fun L1=>M.bad 154)))):=by kernel_rfl
theorem rd_op(d:Di)(S R:List D)(m y k g:Int):eOp (86,0) ⟨[.y 4,.p 2 0 0,iv k,.v (.int .u64 g)],[.arr true 39 1 [dDi d],.arr true 98 1 [.agg [.sl false 57 R (.tip 8),iv m,iv y]],.arr true 36 1 [sl 57 S],.mk,.rc 34 [.p 0 0 0,.p 1 0 0,ik 0] .ready .non,.tip 57],[]⟩=(M.br (decide (k<nI (List.length S))) (M.get S k fun d0=>M.call 87 [sl 5 (D.items d0),iv k] [] fun d1 o1=>M.br (!D.bool d1) (M.pure (some 0,(ls [] [Blk.arr true 39 1 [dDi d],Blk.arr true 98 1 [D.agg [D.sl false 57 R (Tok.tip 8),iv m,iv y]],Blk.arr true 36 1 [sl 57 S],Blk.mk,Blk.rc 34 [D.p 0 0 0,D.p 1 0 0,ik (0:Int)] LoopState.ready PE.non,Blk.tip 57]))) (M.get (D.items d0) (10:Int) fun d2=>M.br (!(IntKind.wrap IntKind.u8 (nI (BitVec.toNat (BitVec.ofInt 8 (D.int d2)&&&BitVec.ofInt 8 (1:Int)))) != (0:Int)) == (k == k)) (M.pure (some 0,(ls [] [Blk.arr true 39 1 [dDi d],Blk.arr true 98 1 [D.agg [D.sl false 57 R (Tok.tip 8),iv m,iv y]],Blk.arr true 36 1 [sl 57 S],Blk.mk,Blk.rc 34 [D.p 0 0 0,D.p 1 0 0,ik (0:Int)] LoopState.ready PE.non,Blk.tip 57]))) (M.need (decide ((0:Int)≤(0:Int)∧(0:Int)≤(4:Int)∧(4:Int)≤nI (List.length (D.items d0)))) (M.call 65 [sl 5 (List.take 4 (D.items d0))] [] fun d3 o3=>M.get S k fun d4=>M.need (decide ((0:Int)≤(0:Int)∧(0:Int)≤(4:Int)∧(4:Int)≤nI (List.length (D.items d4)))) (M.call 65 [sl 5 (List.take 4 (D.items d4))] [] fun d5 o5=>M.br (D.int d3 != D.int d5) (M.pure (some 0,(ls [] [Blk.arr true 39 1 [dDi d],Blk.arr true 98 1 [D.agg [D.sl false 57 R (Tok.tip 8),iv m,iv y]],Blk.arr true 36 1 [sl 57 S],Blk.mk,Blk.rc 34 [D.p 0 0 0,D.p 1 0 0,ik (0:Int)] LoopState.ready PE.non,Blk.tip 57]))) (M.need (decide ((0:Int)≤(0:Int)∧(0:Int)≤(4:Int)∧(4:Int)≤nI (List.length (D.items d0)))) (M.call 65 [sl 5 (List.take 4 (D.items d0))] [] fun d6 o6=>M.br (decide (D.int d6<g)) (M.pure (some 0,(ls [] [Blk.arr true 39 1 [dDi d],Blk.arr true 98 1 [D.agg [D.sl false 57 R (Tok.tip 8),iv m,iv y]],Blk.arr true 36 1 [sl 57 S],Blk.mk,Blk.rc 34 [D.p 0 0 0,D.p 1 0 0,ik (0:Int)] LoopState.ready PE.non,Blk.tip 57]))) (M.get (D.items d0) (11:Int) fun d7=>M.need (decide ((0:Int)≤(12:Int)∧(12:Int)≤w64 ((12:Int)+w64 (D.int d7))∧w64 ((12:Int)+w64 (D.int d7))≤nI (List.length (D.items d0)))) (M.need (decide (0+List.length (List.take (Int.toNat (w64 ((12:Int)+w64 (D.int d7)))-12) (List.drop 12 (D.items d0)))≤1099511627776)) (M.get (D.items d0) (10:Int) fun d8=>M.br (IntKind.wrap IntKind.u8 (nI (BitVec.toNat (BitVec.ofInt 8 (D.int d8)&&&BitVec.ofInt 8 (2:Int)))) != (0:Int)) (M.need (decide ((0:Int)≤(0:Int)∧(0:Int)≤(4:Int)∧(4:Int)≤nI (List.length (D.items d0)))) (M.call 65 [sl 5 (List.take 4 (D.items d0))] [] fun d9 o9=>M.need (decide (List.length R+(1:Nat)≤1099511627776)) (M.pure (none,(ls [D.y 4,D.p 2 0 0,iv (w64 (k+(1:Int))),D.v (Value.int IntKind.u64 (D.int d9))] [Blk.arr true 39 1 [dDi d],Blk.arr true 98 1 [D.agg [D.sl false 57 (R++[D.sl false 5 ([]++List.take (Int.toNat (w64 ((12:Int)+w64 (D.int d7)))-12) (List.drop 12 (D.items d0))) Tok.non]) (Tok.tip 8),iv m,iv y]],Blk.arr true 36 1 [sl 57 S],Blk.mk,Blk.rc 34 [D.p 0 0 0,D.p 1 0 0,ik (0:Int)] LoopState.ready PE.non,Blk.tip 57]))))) (M.bad 140))))))))))) (M.pure (some 0,(ls [] [Blk.arr true 39 1 [dDi d],Blk.arr true 98 1 [D.agg [D.sl false 57 R (Tok.tip 8),iv m,iv y]],Blk.arr true 36 1 [sl 57 S],Blk.mk,Blk.rc 34 [D.p 0 0 0,D.p 1 0 0,ik (0:Int)] LoopState.ready PE.non,Blk.tip 57])))):=by kernel_rfl
structure Jo where
 re:List (List D)
 many:Int
 syn:Int
def dJo(j:Jo):D:=.agg [.sl false 57 (j.re.map dSe) .non,iv j.many,iv j.syn]
def kJo:SK0:=.row [.sl 57,.i .i64,.i .i64]
def encs:Nat→List (Nat×List D)→List (List D)
 | _,[]=>[]
 | k,x::r=>encS x.1 k 3 x.2::encs (k+1) r
theorem encs_len:∀ (l:List (Nat×List D))(k:Nat),(encs k l).length=l.length
 | [],_=>rfl
 | x::l,k=>by rw [encs,List.length_cons,List.length_cons,encs_len l]
theorem encs_get:∀ (l:List (Nat×List D))(k i:Nat)(x:Nat×List D),l[i]?=some x→(encs k l)[i]?=some (encS x.1 ((k+i:Nat):Int) 3 x.2)
 | [],_,_,_,h=>by simp at h
 | y::l,k,0,x,h=>by
  obtain rfl:y=x:=by simpa using h
  rfl
 | y::l,k,i+1,x,h=>by
  have:=encs_get l (k+1) i x (by simpa using h)
  rw [encs,List.getElem?_cons_succ,this,show k+1+i=k+(i+1) by omega]
def GOk(x:Nat×List D):Prop:=0<x.1∧x.1<4294967296∧By x.2∧x.2.length≤50
inductive BadS (n:Nat):List D→Prop where
 | zero:BadS n (List.replicate 128 (u8 0))
 | torn (x:Nat×List D) (h:GOk x):BadS n (tornS x.1 n x.2)
def lastG(gs:List (Nat×List D)):Nat→Nat
 | 0=>0
 | i+1=>((gs[i]?).map (·.1)).getD 0
structure JOk(gs:List (Nat×List D))(rest:List (List D)):Prop where
 ok:∀ x∈gs,GOk x
 up:∀ i x,gs[i]?=some x→lastG gs i≤x.1
 bad:∀ s,rest.head?=some s→BadS gs.length s
 sm:gs.length+rest.length≤4096
def conGd:Con PP:=⟨87,[.one (.sl 5),kI],.one kB,fun args d=>(∃ (x:Nat×List D) (n:Int),GOk x∧args=[sl 5 (encS x.1 n 3 x.2),iv n]∧d=bv true)∨∃ (n:Nat) (s:List D),BadS n s∧args=[sl 5 s,iv n]∧d=bv false,fun args d hr h=>by
 rcases hr with ⟨x,n,⟨h1,h2,h3,h4⟩,rfl,rfl⟩|⟨n,s,hs,rfl,rfl⟩
 ·exact gd_good x.1 n x.2 h1 h2 h3 h4 h
 cases hs with
 | zero=>exact gd_zero n h
 | torn x hx=>exact gd_torn x.1 n x.2 hx.1 hx.2.1 hx.2.2.1 hx.2.2.2 h⟩
theorem sec_at(g:Nat)(n:Int)(b:List D)(hl:b.length≤50):(encS g n 3 b)[10]?=some (u8 3)∧(encS g n 3 b)[11]?=some (u8 (b.length:Int))∧(encS g n 3 b).take 4=put4 g∧List.take (Int.toNat (w64 ((12:Int)+w64 (b.length:Int)))-12) (List.drop 12 (encS g n 3 b))=b∧decide ((0:Int)≤(0:Int)∧(0:Int)≤(4:Int)∧(4:Int)≤nI (encS g n 3 b).length)=true∧decide ((0:Int)≤(12:Int)∧(12:Int)≤w64 ((12:Int)+w64 (b.length:Int))∧w64 ((12:Int)+w64 (b.length:Int))≤nI (encS g n 3 b).length)=true:=by
 have hw:w64 (b.length:Int)=(b.length:Int):=w64_id (by omega) (by omega)
 have hw2:w64 ((12:Int)+(b.length:Int))=(12:Int)+(b.length:Int):=w64_id (by omega) (by omega)
 have hlen:=encS_len g n 3 b (by omega)
 refine⟨?_,?_,?_,?_,?_,?_⟩
 ·rw [encS_cons];rfl
 ·rw [encS_cons]
  show some (u8 (IntKind.wrap .u8 (nI b.length)))=_
  rw [wrap_u8 (by simp only [nI];omega) (by simp only [nI];omega)]
 ·rw [encS_cons,← put4_by];rfl
 ·rw [hw,hw2,show Int.toNat ((12:Int)+(b.length:Int))-12=b.length by omega,encS_cons]
  show List.take b.length (b++_)=b
  rw [List.take_left]
 ·rw [hlen];decide
 rw [hw,hw2,hlen]
 exact decide_eq_true ⟨by omega,by omega,by simp only [nI];omega⟩
abbrev gOpC:List (Con PP):=[conDk,conGet,conGd]
abbrev secs (gs:List (Nat×List D)) (rest:List (List D)):List (List D):=encs 0 gs++rest
abbrev recsD (gs:List (Nat×List D)):List D:=gs.map fun x=>dSe x.2
abbrev stOp (d:Di) (gs:List (Nat×List D)) (rest:List (List D)) (m:Int) (i:Nat):LSt:=⟨[.y 4,.p 2 0 0,iv ((i:Nat):Int),.v (.int .u64 (lastG gs i))],[.arr true 39 1 [dDi d],.arr true 98 1 [.agg [.sl false 57 (recsD (gs.take i)) (.tip 8),iv m,iv 0]],.arr true 36 1 [sl 57 ((secs gs rest).map dSe)],.mk,.rc 34 [.p 0 0 0,.p 1 0 0,ik 0] .ready .non,.tip 57],[]⟩
theorem op_lp(d:Di)(gs:List (Nat×List D))(rest:List (List D))(hj:JOk gs rest)(m:Int):∃ j L,Lp eOp (consΓ gOpC) (86,0) (stOp d gs rest m 0) j L∧j=0∧L=⟨[],(stOp d gs rest m gs.length).bs,[]⟩:=by
 have hsm:=hj.sm
 have hS:nI ((secs gs rest).map dSe).length=((gs.length+rest.length:Nat):Int):=by rw [List.length_map,List.length_append,encs_len]
 refine lp_up (σ:=Unit) (fun i _=>stOp d gs rest m i) gs.length (fun _ _=>True) _ (fun i _ hi _=>?_) (fun _ _=>?_) (s:=()) trivial
 ·rw [rd_op,hS]
  have hx:=List.getElem?_eq_getElem hi
  generalize gs[i]=x at hx
  have hok:=hj.ok x (List.mem_of_getElem? hx)
  have hup:=hj.up i x hx
  obtain⟨f1,f2,f3,f4,f5,f6⟩:=sec_at x.1 ((i:Nat):Int) x.2 hok.2.2.2
  have hget:((secs gs rest).map dSe)[((i:Nat):Int).toNat]?=some (dSe (encS x.1 ((i:Nat):Int) 3 x.2)):=by
   rw [Int.toNat_natCast,List.getElem?_map,List.getElem?_append_left (by rw [encs_len];exact hi),encs_get gs 0 i x hx,Nat.zero_add]
   rfl
  have hG:consΓ gOpC 65 [sl 5 (List.take 4 (encS x.1 ((i:Nat):Int) 3 x.2))] [] (.ret (.v (.int .u64 x.1)) []):=⟨conGet,rfl,_,⟨x.1,hok.2.1,by rw [f3],rfl⟩,rfl⟩
  refine⟨fun _=>⟨by omega,_,hget,bv true,[],⟨conGd,rfl,_,.inl ⟨x,i,hok,rfl,rfl⟩,rfl⟩,(fun q=>nomatch q),fun _=>⟨by decide,_,f1,fun q=>?_,fun _=>⟨f5,_,[],hG,by omega,_,hget,f5,_,[],hG,fun q=>?_,fun _=>⟨f5,_,[],hG,fun q=>?_,fun _=>⟨by decide,_,f2,f6,?_,by decide,_,f1,fun _=>⟨f5,_,[],hG,?_,.inl ⟨(),?_,trivial⟩⟩,fun q=>absurd q (by decide)⟩⟩⟩⟩⟩,fun h=>absurd (of_decide_eq_false h) (by omega)⟩
  ·rw [beq_self_eq_true]at q
   exact absurd q (by decide)
  ·have q:(((x.1:Nat):Int) != ((x.1:Nat):Int))=true:=q
   simp at q
  ·have q:((x.1:Nat):Int)<((lastG gs i:Nat):Int):=of_decide_eq_true q
   omega
  ·show decide (0+(List.take (Int.toNat (w64 ((12:Int)+w64 (x.2.length:Int)))-12) (List.drop 12 (encS x.1 ((i:Nat):Int) 3 x.2))).length≤1099511627776)=true
   have:=hok.2.2.2
   rw [f4]
   exact decide_eq_true (by omega)
  ·refine decide_eq_true ?_
   rw [List.length_map,List.length_take];omega
  rw [w64_id (by omega) (by omega)]
  obtain⟨h1,h2⟩:=List.getElem?_eq_some_iff.1 hx
  have hl:lastG gs (i+1)=x.1:=by
   show((gs[i]?).map (·.1)).getD 0=_
   rw [hx];rfl
  have ht:recsD (gs.take (i+1))=recsD (gs.take i)++[dSe x.2]:=by
   unfold recsD
   rw [List.take_succ_eq_append_getElem h1,h2,List.map_append];rfl
  show _=(none,LSt.mk [.y 4,.p 2 0 0,iv (((i+1:Nat)):Int),.v (.int .u64 (lastG gs (i+1)))] [.arr true 39 1 [dDi d],.arr true 98 1 [.agg [.sl false 57 (recsD (gs.take (i+1))) (.tip 8),iv m,iv 0]],_,_,_,_] [])
  rw [hl,ht]
  show(none,LSt.mk [.y 4,.p 2 0 0,iv (((i:Nat):Int)+1),.v (.int .u64 x.1)] [.arr true 39 1 [dDi d],.arr true 98 1 [.agg [.sl false 57 (recsD (gs.take i)++[D.sl false 5 (List.take (Int.toNat (w64 ((12:Int)+w64 (x.2.length:Int)))-12) (List.drop 12 (encS x.1 ((i:Nat):Int) 3 x.2))) .non]) (.tip 8),iv m,iv 0]],_,_,_,_] [])=_
  rw [f4]
  rfl
 rw [rd_op,hS]
 refine⟨fun q=>?_,fun _=>⟨0,_,rfl,rfl,rfl⟩⟩
 have q:=of_decide_eq_true q
 cases hr:rest with
 | nil=>rw [hr]at q;exact absurd q (by rw [List.length_nil];omega)
 | cons s r =>
  have hb:=hj.bad s (by rw [hr];rfl)
  have hget:((secs gs (s::r)).map dSe)[((gs.length:Nat):Int).toNat]?=some (dSe s):=by
   rw [Int.toNat_natCast,List.getElem?_map,List.getElem?_append_right (by rw [encs_len];exact Nat.le_refl _),encs_len,Nat.sub_self]
   rfl
  exact⟨by omega,_,hget,bv false,[],⟨conGd,rfl,_,.inr ⟨gs.length,s,hb,rfl,rfl⟩,rfl⟩,fun _=>⟨0,_,rfl,rfl,rfl⟩,fun q=>nomatch q⟩
theorem named_op:NamedT eOp PP cOp [34,58,86] yh0 :=
 named_range (c0:=lcode 34 0) (by kernel_rfl) (fun c s=>rfl) (by kernel_rfl) (named_plain (by kernel_rfl) (named_none (by kernel_rfl) (by kernel_rfl) (fun c s=>rfl) (NamedT.nil (P:=PP))))
  (named_plain (by kernel_rfl) (named_loops [lcode 86 0,lcode 86 1] (by kernel_rfl) (by kernel_rfl) (by kernel_rfl) (fun c hc s id g h L=>by
   rcases List.mem_cons.1 hc with hc|hc
   ·have e:cOp.find 86 34 (lcode 86 0) s=some ((86,0),gOp):=by kernel_rfl
    rw [hc]at h ⊢
    have h:=Prod.mk.inj (Option.some.inj (e.symm.trans h))
    rw [← h.1,← h.2];rfl
   have e:cOp.find 86 34 (lcode 86 1) s=none:=by kernel_rfl
   rw [List.mem_singleton.1 hc]at h
   cases e.symm.trans h) (NamedT.nil (P:=PP))))
structure DJ(d:Di)(gs:List (Nat×List D))(rest:List (List D)):Prop where
 ok:DOk d
 se:d.se=secs gs rest
 pe:d.pe=[]
 st:d.stop=false
 j:JOk gs rest
theorem op_ok(d:Di)(gs:List (Nat×List D))(rest:List (List D))(hd:DJ d gs rest)(hv:∀ x∈gs,x.2.map D.vv=x.2)(h:Heap):CallSd PP 34 [dDi d] h (.ret (.tup [dJo ⟨gs.map (·.2),d.se.length,gs.length⟩,iv 0])) h:=by
 refine con_of (E:=eOp) (Γ:=consΓ gOpC) (C:=cOp) (l:=[34,58,86]) (.tup [kJo,kI]) (show CallOk PP eOp (consΓ gOpC) (cons PP rwOp) from cons_ok rfl) named_op rfl rfl rfl (to_wp ?_) h
 rw [t_op,hd.st,hd.pe]
 refine⟨_,[],⟨conDk,rfl,_,⟨d,hd.ok,rfl,rfl⟩,rfl⟩,(fun q=>nomatch q),fun _=>⟨(fun q=>nomatch q),fun _=>⟨(fun q=>nomatch q),fun _=>?_⟩⟩⟩
 obtain⟨_,_,g1,rfl,rfl⟩:=op_lp d gs rest hd.j (nI (d.se.map dSe).length)
 refine .inl ⟨⟨[],(stOp d gs rest (nI (d.se.map dSe).length) gs.length).bs,[]⟩,?_,?_⟩
 ·rw [hd.se]at g1 ⊢
  exact g1
 have e:(stOp d gs rest (nI (d.se.map dSe).length) gs.length).bs=[.arr true 39 1 [dDi d],.arr true 98 1 [.agg [.sl false 57 (recsD gs) (.tip 8),iv d.se.length,iv 0]],.arr true 36 1 [sl 57 ((secs gs rest).map dSe)],.mk,.rc 34 [.p 0 0 0,.p 1 0 0,ik 0] .ready .non,.tip 57]:=by
  show [_,Blk.arr true 98 1 [.agg [.sl false 57 (recsD (gs.take gs.length)) (.tip 8),iv (nI (d.se.map dSe).length),iv 0]],_,_,_,_]=_
  rw [List.take_length,List.length_map]
 rw [e]
 refine⟨_,_,rfl,rfl,?_⟩
 show D.tup [.agg [.sl false 57 (vvL (recsD gs)) .non,iv d.se.length,iv (nI (recsD gs).length)],iv 0]=_
 have e2:vvL (recsD gs)=(gs.map (·.2)).map dSe:=by
  rw [vvL_map,List.map_map,List.map_map]
  refine List.map_congr_left fun x hx=>?_
  show D.sl false 5 (vvL x.2) .non=_
  rw [vvL_map,hv x hx]
  rfl
 rw [e2,List.length_map]
 rfl
end Z
namespace Z
noncomputable def cSec:Cf:=cf [] [] []
def gUs:LCfg:=⟨17,4,4,⟨[(2,sI),(5,.el (.one (.sl 57))),(6,sI),(7,sI)],[]⟩,[(.exit 0,⟨[(2,sI)],[]⟩)]⟩
noncomputable def cUs:Cf:=cf [60] [⟨61,0,2,(61,0),gUs⟩] [⟨60,[.one (.sl 5)],.one kI⟩]
noncomputable def eUs:LId→LSt→M Rd1:=fun id L=>gUs.round PP (kitF PP cUs (callT PP cUs []) yh0 61) (lcode 61 0) L
noncomputable def cJc:Cf:=cf [61] [] [⟨61,[.one (.sl 57)],.one kI⟩]
def rwAp:List CRow:=[⟨59,[kJo],.one kI⟩,⟨60,[.one (.sl 5)],.one kI⟩,⟨61,[.one (.sl 57)],.one kI⟩,⟨63,[.one (.sl 5)],.one (.one (.sl 5))⟩]
noncomputable def cAp:Cf:=cf [59,60,61,62,63] [] rwAp
theorem t_sec(b:List D):callR cSec [60] 60 [sl 5 b]=(M.pure (Rs.ret (iv (if(1:Int)<w64 (Int.tdiv (w64 (w64 (nI (List.length b)+(112:Int))-(1:Int))) (112:Int))then w64 (Int.tdiv (w64 (w64 (nI (List.length b)+(112:Int))-(1:Int))) (112:Int))else(1:Int))))):=by kernel_rfl
theorem t_us(l:List (List D)):callR cUs [61] 61 [sl 57 (l.map dSe)]=(M.loop (61,0) (ls [iv (0:Int),sl 57 (List.map dSe l),iv (nI (List.length (List.map dSe l))),iv (0:Int)] []) (fun L0=>M.pure (Rs.ret (iv (D.int (vd L0 0))))) (fun L0=>M.bad 154) fun L0=>M.bad 154):=by kernel_rfl
theorem rd_us(l:List (List D))(x n i:Int):eUs (61,0) ⟨[iv x,sl 57 (l.map dSe),iv n,iv i],[],[]⟩=(M.br (decide (i<n)) (M.get (List.map dSe l) i fun d0=>M.call 60 [sl 5 (D.items d0)] [] fun d1 o1=>M.pure (none,(ls [iv (w64 (x+D.int d1)),sl 57 (List.map dSe l),iv n,iv (w64 (i+(1:Int)))] []))) (M.pure (some 0,(ls [iv x] [])))):=by kernel_rfl
theorem t_jc(j:Jo):callR cJc [59] 59 [dJo j]=(M.br (decide (j.2<(1:Int))) (M.pure (Rs.ret (ik (1:Int)))) (M.br (decide (j.2>(4096:Int))) (M.pure (Rs.ret (ik (1:Int)))) (M.br (decide (j.3<(0:Int))) (M.pure (Rs.ret (ik (1:Int)))) (M.br (decide (j.3>nI (List.length (List.map dSe j.1)))) (M.pure (Rs.ret (ik (1:Int)))) (M.call 61 [sl 57 (List.map dSe j.1)] [] fun d0 o0=>M.br (decide (D.int d0>j.2)) (M.pure (Rs.ret (ik (1:Int)))) (M.pure (Rs.ret (ik (0:Int))))))))):=by kernel_rfl
theorem t_ap(j:Jo)(b:List D):callR cAp [35,62] 35 [dJo j,sl 5 b]=(M.call 59 [dJo j] [] fun d0 o0=>M.br (D.int d0 != (0:Int)) (M.pure (Rs.ret (D.tup [D.agg [D.sl true 57 [] Tok.nil,ik (0:Int),ik (0:Int)],iv (D.int d0)]))) (M.call 60 [sl 5 b] [] fun d1 o1=>M.call 61 [sl 57 (List.map dSe j.1)] [] fun d2 o2=>M.br (decide (D.int d1>w64 (j.2-D.int d2))) (M.pure (Rs.ret (D.tup [D.agg [D.sl true 57 [] Tok.nil,ik (0:Int),ik (0:Int)],ik (2:Int)]))) (M.need (decide ((0:Int)≤(0:Int)∧(0:Int)≤nI (List.length (List.map dSe j.1))∧nI (List.length (List.map dSe j.1))≤nI (List.length (List.map dSe j.1))∧nI (List.length (List.map dSe j.1))=nI (List.length (List.map dSe j.1)))) (M.call 63 [sl 5 b] [] fun d3 o3=>M.need (decide (List.length (List.take (Int.toNat (nI (List.length (List.map dSe j.1)))) (List.map dSe j.1))+(1:Nat)≤1099511627776)) (M.pure (Rs.ret (D.tup [D.agg [D.sl false 57 (List.take (Int.toNat (nI (List.length (List.map dSe j.1)))) (List.map dSe j.1)++[sl 5 (D.items d3)]) (Tok.tip 2),iv j.2,iv j.3],ik (0:Int)]))))))):=by kernel_rfl
theorem t_cl0  : callR cSec [63] 63 [.k (.slice none 0 0)]=(M.pure (Rs.ret (D.k (Value.slice none 0 0)))):=by kernel_rfl
theorem t_cl1(c:Nat):callR cSec [63] 63 [.k (.slice none 0 (c+1))]=(M.pure (Rs.ret (D.k (Value.slice none 0 0)))):=by kernel_rfl
theorem t_cl2(a:Addr)(c:Nat):callR cSec [63] 63 [.k (.slice (some a) 0 c)]=(M.pure (Rs.ret (D.sl true 5 [] (Tok.tip 0)))):=by kernel_rfl
theorem t_cl3(b:List D):callR cSec [63] 63 [sl 5 b]=(M.need (decide ((0:Nat)<List.length b)) (M.need (decide ((0:Nat)<List.length b∧List.length b≤1099511627776)) (M.pure (Rs.ret (sl 5 (List.take (List.length b) b)))))):=by kernel_rfl
theorem CallSd.res{f:FuncId}{args:List D}{d d':D}{h h':Heap}(hc:CallSd PP f args h (.ret d) h')(hd:∀ {I α v},Den (tyOf PP) I α d v→Den (tyOf PP) I α d' v):CallSd PP f args h (.ret d') h':=fun w0 ms α I W xs hi hl hx =>
 (hc w0 ms α I W xs hi hl hx).mono fun e W' hh=>by
  obtain⟨α',I',q1,q2,q3,q4⟩:=hh
  refine⟨α',I',q1,q2,q3,?_⟩
  cases e<;>first|exact hd q4|exact q4.elim
theorem cl_ok(l:List D)(hv:l.map D.vv=l)(hs:l.length<1000000)(h:Heap):CallSd PP 63 [sl 5 l] h (.ret (sl 5 l)) h:=by
 by_cases hl:l=[]
 ·subst hl
  clear hs hv
  intro w0 ms α I W xs hi hlen hx
  have hsz:xs.size=1:=by simpa using hlen.symm
  have h0:=hx 0 (sl 5 []) (xs[0]'(by omega)) rfl (Array.getElem?_eq_getElem _)
  generalize hx0:xs[0]'(by omega)=x at h0
  cases h0 with
  | @sl _ _ _ _ _ A c hc hk hm =>
   have key:CallSd PP 63 [.k (.slice A 0 c)] h (.ret (sl 5 [])) h:=by
    cases A with
    | none =>
     refine CallSd.res (d:=.v (.slice none 0 0)) (con_of (E:=E0) (Γ:=consΓ (P:=PP) []) (C:=cSec) (l:=[63]) (.one (.one .o)) (cons_ok rfl) (named_plain (by kernel_rfl) (NamedT.nil (P:=PP))) rfl rfl rfl (to_wp ?_) h) fun hd=>?_
     ·cases c with
      | zero=>rw [t_cl0];exact⟨_,_,rfl,rfl,rfl⟩
      | succ c=>rw [t_cl1];exact⟨_,_,rfl,rfl,rfl⟩
     cases hd
     exact .sl (l:=[]) (Nat.zero_le _) trivial fun h=>absurd rfl h
    | some a =>
     refine con_of (E:=E0) (Γ:=consΓ (P:=PP) []) (C:=cSec) (l:=[63]) (.one (.one (.sl 5))) (cons_ok rfl) (named_plain (by kernel_rfl) (NamedT.nil (P:=PP))) rfl rfl rfl (to_wp ?_) h
     rw [t_cl2]
     exact⟨_,_,rfl,rfl,rfl⟩
   refine key w0 ms α I W xs hi (by simpa using hsz.symm) fun j d y g1 g2=>?_
   match j,g1,g2 with
   | 0,g1,g2 =>
    obtain rfl:=Option.some.inj g1
    rw [Array.getElem?_eq_getElem (by omega)]at g2
    obtain rfl:=Option.some.inj g2
    rw [hx0]
    exact .k rfl
   | j+1,g1,g2=>simp at g1
 refine con_of (E:=E0) (Γ:=consΓ (P:=PP) []) (C:=cSec) (l:=[63]) (.one (.one (.sl 5))) (cons_ok rfl) (named_plain (by kernel_rfl) (NamedT.nil (P:=PP))) rfl rfl rfl (to_wp ?_) h
 rw [t_cl3]
 have hp:0<l.length:=List.length_pos_iff.2 hl
 refine⟨decide_eq_true hp,decide_eq_true ⟨hp,by omega⟩,_,_,rfl,rfl,?_⟩
 show D.sl false 5 (vvL (l.take l.length)) .non=_
 rw [List.take_length,vvL_map,hv]
def conCl:Con PP:=⟨63,[.one (.sl 5)],.one (.one (.sl 5)),fun args d=>∃ l:List D,l.map D.vv=l∧l.length<1000000∧args=[sl 5 l]∧d=sl 5 l,fun args d ⟨l,hv,hs,ha,hd⟩ h=>by subst ha;subst hd;exact cl_ok l hv hs h⟩
theorem sec_ok(b:List D)(hb:b.length≤112)(h:Heap):CallSd PP 60 [sl 5 b] h (.ret (iv 1)) h:=by
 refine con_of (E:=E0) (Γ:=consΓ (P:=PP) []) (C:=cSec) (l:=[60]) (.one kI) (cons_ok rfl) (named_plain (by kernel_rfl) (NamedT.nil (P:=PP))) rfl rfl rfl (to_wp ?_) h
 rw [t_sec]
 refine⟨_,_,rfl,rfl,?_⟩
 have e1:w64 (nI b.length+112)=(b.length:Int)+112:=w64_id (by simp only [nI];omega) (by simp only [nI];omega)
 have e2:w64 (w64 (nI b.length+112)-1)=(b.length:Int)+111:=by rw [e1,w64_id (by omega) (by omega)];omega
 have e3:Int.tdiv ((b.length:Int)+111) 112=((b.length:Int)+111) / 112:=Int.tdiv_eq_ediv_of_nonneg (by omega)
 have e4:w64 (Int.tdiv (w64 (w64 (nI b.length+112)-1)) 112)=((b.length:Int)+111) / 112:=by
  rw [e2,e3,w64_id (by omega) (by omega)]
 rw [e4,if_neg (by omega)]
 rfl
def conSec:Con PP:=⟨60,[.one (.sl 5)],.one kI,fun args d=>∃ b:List D,b.length≤112∧args=[sl 5 b]∧d=iv 1,fun args d ⟨b,hb,ha,hd⟩ h=>by subst ha;subst hd;exact sec_ok b hb h⟩
theorem us_ok(l:List (List D))(hl:∀ b∈l,b.length≤112)(hs:l.length<100000)(h:Heap):CallSd PP 61 [sl 57 (l.map dSe)] h (.ret (iv l.length)) h:=by
 refine con_of (E:=eUs) (Γ:=consΓ [conSec]) (C:=cUs) (l:=[61]) (.one kI) (cons_ok rfl) (named_loop (id0:=(61,0)) (by kernel_rfl) (by kernel_rfl) (by kernel_rfl) (fun s=>by kernel_rfl) (fun L=>rfl) (NamedT.nil (P:=PP))) rfl rfl rfl (to_wp ?_) h
 rw [t_us,show nI (l.map dSe).length=(l.length:Int) by rw [List.length_map]]
 have hlp:∃ j L,Lp eUs (consΓ [conSec]) (61,0) ⟨[iv (((0:Nat)):Int),sl 57 (l.map dSe),iv l.length,iv (((0:Nat)):Int)],[],[]⟩ j L∧j=0∧L=⟨[iv l.length],[],[]⟩:=by
  refine lp_up (σ:=Unit) (fun i _=>⟨[iv ((i:Nat):Int),sl 57 (l.map dSe),iv l.length,iv ((i:Nat):Int)],[],[]⟩) l.length (fun _ _=>True) _ (fun i _ hi _=>?_) (fun _ _=>?_) (s:=()) trivial
  ·rw [rd_us]
   have hg:(l.map dSe)[((i:Nat):Int).toNat]?=some (dSe (l[i]'hi)):=by
    rw [Int.toNat_natCast,List.getElem?_map,List.getElem?_eq_getElem hi];rfl
   refine⟨fun _=>⟨by omega,_,hg,iv 1,[],⟨conSec,rfl,_,⟨l[i]'hi,hl _ (List.getElem_mem hi),rfl,rfl⟩,rfl⟩,.inl ⟨(),?_,trivial⟩⟩,fun h=>absurd (of_decide_eq_false h) (by omega)⟩
   show(none,LSt.mk [iv (w64 (((i:Nat):Int)+1)),_,_,iv (w64 (((i:Nat):Int)+1))] _ _)=_
   rw [w64_id (by omega) (by omega)]
   rfl
  rw [rd_us]
  exact⟨fun h=>absurd (of_decide_eq_true h) (by omega),fun _=>⟨0,_,rfl,rfl,rfl⟩⟩
 obtain⟨_,_,g1,rfl,rfl⟩:=hlp
 exact .inl ⟨_,g1,_,_,rfl,rfl,rfl⟩
def conUs:Con PP:=⟨61,[.one (.sl 57)],.one kI,fun args d=>∃ l:List (List D),(∀ b∈l,b.length≤112)∧l.length<100000∧args=[sl 57 (l.map dSe)]∧d=iv l.length,fun args d ⟨l,hl,hs,ha,hd⟩ h=>by subst ha;subst hd;exact us_ok l hl hs h⟩
structure JcOk(j:Jo):Prop where
 m1:1≤j.many
 m2:j.many≤4096
 s1:0≤j.syn
 s2:j.syn≤j.re.length
 r1:(j.re.length:Int)≤j.many
 r2:∀ b∈j.re,b.length≤112
theorem jc_ok(j:Jo)(hj:JcOk j)(h:Heap):CallSd PP 59 [dJo j] h (.ret (iv 0)) h:=by
 refine con_of (E:=E0) (Γ:=consΓ [conUs]) (C:=cJc) (l:=[59]) (.one kI) (cons_ok rfl) (named_plain (by kernel_rfl) (NamedT.nil (P:=PP))) rfl rfl rfl (to_wp ?_) h
 have h1:=hj.m1
 have h2:=hj.m2
 have h3:=hj.s1
 have h4:=hj.s2
 have h5:=hj.r1
 rw [t_jc,show nI (j.re.map dSe).length=(j.re.length:Int) by rw [List.length_map]]
 refine⟨fun q=>absurd (of_decide_eq_true q) (by omega),fun _=>⟨fun q=>absurd (of_decide_eq_true q) (by omega),fun _=>⟨fun q=>absurd (of_decide_eq_true q) (by omega),fun _=>⟨fun q=>absurd (of_decide_eq_true q) (by omega),fun _=>⟨iv j.re.length,[],⟨conUs,rfl,_,⟨j.re,hj.r2,by omega,rfl,rfl⟩,rfl⟩,fun q=>absurd (of_decide_eq_true q) ?_,fun _=>⟨_,_,rfl,rfl,rfl⟩⟩⟩⟩⟩⟩
 exact fun h=>absurd (show(j.re.length:Int)>j.many from h) (by omega)
def conJc:Con PP:=⟨59,[kJo],.one kI,fun args d=>∃ j,JcOk j∧args=[dJo j]∧d=iv 0,fun args d ⟨j,hj,ha,hd⟩ h=>by subst ha;subst hd;exact jc_ok j hj h⟩
theorem ap_ok(j:Jo)(b:List D)(hj:JcOk j)(hv:b.map D.vv=b)(hr:∀ x∈j.re,x.map D.vv=x)(hb:b.length≤112)(hm:(j.re.length:Int)+1≤j.many)(h:Heap):CallSd PP 35 [dJo j,sl 5 b] h (.ret (.tup [dJo { j with re:=j.re++[b] },iv 0])) h:=by
 refine con_of (E:=E0) (Γ:=consΓ [conJc,conSec,conUs,conCl]) (C:=cAp) (l:=[35,62]) (.tup [kJo,kI]) (show CallOk PP E0 (consΓ [conJc,conSec,conUs,conCl]) (cons PP rwAp) from cons_ok rfl) (named_all (List.all_eq_true.1 (by kernel_rfl:[35,62].all plainB=true))) rfl rfl rfl (to_wp ?_) h
 have h1:=hj.m1
 have h2:=hj.m2
 have h5:=hj.r1
 rw [t_ap]
 refine⟨_,[],⟨conJc,rfl,_,⟨j,hj,rfl,rfl⟩,rfl⟩,(fun q=>nomatch q),fun _=>⟨iv 1,[],⟨conSec,rfl,_,⟨b,hb,rfl,rfl⟩,rfl⟩,iv j.re.length,[],⟨conUs,rfl,_,⟨j.re,hj.r2,by omega,rfl,rfl⟩,rfl⟩,fun q=>?_,fun _=>⟨?_,sl 5 b,[],⟨conCl,rfl,_,⟨b,hv,by omega,rfl,rfl⟩,rfl⟩,?_⟩⟩⟩
 ·have q:(1:Int)>w64 (j.many-j.re.length):=of_decide_eq_true q
  rw [w64_id (by omega) (by omega)]at q
  omega
 ·exact decide_eq_true ⟨Int.le_refl _,Int.natCast_nonneg _,Int.le_refl _,rfl⟩
 rw [show List.take (Int.toNat (nI (List.length (List.map dSe j.re)))) (List.map dSe j.re)=List.map dSe j.re by rw [Int.toNat_natCast,List.take_length]]
 refine⟨decide_eq_true (by rw [List.length_map];omega),_,_,rfl,rfl,?_⟩
 show D.tup [.agg [.sl false 57 (vvL (List.map dSe j.re++[dSe b])) .non,iv j.many,iv j.syn],iv 0]=_
 have e:vvL (List.map dSe j.re++[dSe b])=(j.re++[b]).map dSe:=by
  rw [vvL_map,List.map_append,List.map_append,List.map_map]
  have e1:j.re.map (D.vv∘dSe)=j.re.map dSe:=List.map_congr_left fun x hx=>by
   show D.sl false 5 (vvL x) .non=_
   rw [vvL_map,hr x hx]
  have e2:[dSe b].map D.vv=[b].map dSe:=by
   show [D.sl false 5 (vvL b) .non]=_
   rw [vvL_map,hv]
   rfl
  rw [e1,e2]
 rw [e]
 rfl
end Z
namespace Z
noncomputable def cRs:Cf:=cf [64,57] [] [⟨57,[kDi],.one kI⟩]
theorem t_rst(d:Di):callR cRs [33] 33 [dDi d]=(M.pure (Rs.ret (D.agg [sl 57 (List.map dSe d.1),D.sl true 164 [] Tok.nil,ik (-1:Int),bk false]))):=by kernel_rfl
theorem t_stp(d:Di)(n:Int):callR cRs [36,64] 36 [dDi d,iv n]=(M.call 57 [dDi d] [] fun d0 o0=>M.br (D.int d0 == (0:Int)) (M.br (!!d.4) (M.pure (Rs.ret (D.tup [D.agg [D.sl true 57 [] Tok.nil,D.sl true 164 [] Tok.nil,ik (0:Int),bk false],ik (40:Int)]))) (M.br (decide (n<(0:Int))) (M.pure (Rs.ret (D.tup [D.agg [D.sl true 57 [] Tok.nil,D.sl true 164 [] Tok.nil,ik (0:Int),bk false],ik (1:Int)]))) (M.br (decide (n>(65536:Int))) (M.pure (Rs.ret (D.tup [D.agg [D.sl true 57 [] Tok.nil,D.sl true 164 [] Tok.nil,ik (0:Int),bk false],ik (1:Int)]))) (M.pure (Rs.ret (D.tup [D.agg [sl 57 (List.map dSe d.1),sl 164 (List.map dWr d.2),iv n,bv d.4],ik (0:Int)])))))) (M.pure (Rs.ret (D.tup [D.agg [D.sl true 57 [] Tok.nil,D.sl true 164 [] Tok.nil,ik (0:Int),bk false],ik (40:Int)])))):=by kernel_rfl
structure VvD(d:Di):Prop where
 s:∀ s∈d.se,s.map D.vv=s
 w:∀ w∈d.pe,w.da.map D.vv=w.da
theorem vv_ses{l:List (List D)}(h:∀ s∈l,s.map D.vv=s):(l.map dSe).map D.vv=l.map dSe:=by
 rw [List.map_map]
 refine List.map_congr_left fun s hs=>?_
 show D.sl false 5 (vvL s) .non=_
 rw [vvL_map,h s hs]
theorem vv_wrs{l:List Wr}(h:∀ w∈l,w.da.map D.vv=w.da):(l.map dWr).map D.vv=l.map dWr:=by
 rw [List.map_map]
 refine List.map_congr_left fun w hw=>?_
 show D.agg [iv w.pos,.sl false 5 (vvL w.da) .non]=_
 rw [vvL_map,h w hw]
 rfl
theorem vv_di{d:Di}(h:VvD d):(dDi d).vv=dDi d:=by
 unfold dDi
 simp only [D.vv,vvL,vvL_map,vv_ses h.s,vv_wrs h.w]
def rstD(d:Di):Di:=⟨d.se,[],-1,false⟩
theorem rst_ok(d:Di)(hv:VvD d)(h:Heap):CallSd PP 33 [dDi d] h (.ret (dDi (rstD d))) h:=by
 refine con_of (E:=E0) (Γ:=consΓ (P:=PP) [conDk]) (C:=cRs) (l:=[33]) (.one kDi) (cons_ok rfl) (named_plain (by kernel_rfl) (NamedT.nil (P:=PP))) rfl rfl rfl (to_wp ?_) h
 rw [t_rst]
 refine⟨_,_,rfl,rfl,?_⟩
 show(dDi (rstD d)).vv=_
 exact vv_di ⟨hv.s,fun w hw=>nomatch hw⟩
def conRst:Con PP:=⟨33,[kDi],.one kDi,fun args r=>∃ d,VvD d∧args=[dDi d]∧r=dDi (rstD d),fun args r ⟨d,hv,ha,hr⟩ h=>by subst ha;subst hr;exact rst_ok d hv h⟩
theorem stp_ok(d:Di)(hd:DOk d)(hv:VvD d)(hs:d.stop=false)(n:Int)(h0:0≤n)(h1:n≤65536)(h:Heap):CallSd PP 36 [dDi d,iv n] h (.ret (.tup [dDi { d with left:=n },iv 0])) h:=by
 refine con_of (E:=E0) (Γ:=consΓ (P:=PP) [conDk]) (C:=cRs) (l:=[36,64]) (.tup [kDi,kI]) (cons_ok rfl) (named_all (List.all_eq_true.1 (by kernel_rfl:[36,64].all plainB=true))) rfl rfl rfl (to_wp ?_) h
 rw [t_stp,hs]
 refine⟨_,[],⟨conDk,rfl,_,⟨d,hd,rfl,rfl⟩,rfl⟩,fun _=>⟨(fun q=>nomatch q),fun _=>⟨fun q=>absurd (of_decide_eq_true q) (by omega),fun _=>⟨fun q=>absurd (of_decide_eq_true q) (by omega),fun _=>⟨_,_,rfl,rfl,?_⟩⟩⟩⟩,fun q=>nomatch q⟩
 show D.tup [(dDi ⟨d.se,d.pe,n,false⟩).vv,iv 0]=_
 rw [vv_di (d:=⟨d.se,d.pe,n,false⟩) ⟨hv.s,hv.w⟩]
def conStp:Con PP:=⟨36,[kDi,kI],.tup [kDi,kI],fun args r=>∃ d n,DOk d∧VvD d∧d.stop=false∧0≤n∧n≤65536∧args=[dDi d,iv n]∧r=.tup [dDi { d with left:=n },iv 0],fun args r ⟨d,n,hd,hv,hs,h0,h1,ha,hr⟩ h=>by subst ha;subst hr;exact stp_ok d hd hv hs n h0 h1 h⟩
end Z
namespace Z
def rwR3:List CRow:=[⟨33,[kDi],.one kDi⟩,⟨34,[kDi],.tup [kJo,kI]⟩]
noncomputable def cR3:Cf:=cf [33,34] [] rwR3
theorem t_r3(d:Di):callR cR3 [19] 19 [dDi d]=(M.call 33 [dDi d] [] fun d0 o0=>M.call 34 [D.agg [sl 57 (D.items (D.cell d0 0)),sl 164 (D.items (D.cell d0 1)),iv (D.int (D.cell d0 2)),bv (D.bool (D.cell d0 3))]] [] fun d1 o1=>M.pure (Rs.ret (D.tup [D.sl false 57 (D.items (D.cell (List.getD (D.parts d1) 0 D.any) 0)) Tok.non,bv (D.int (List.getD (D.parts d1) 1 D.any) == (0:Int))]))):=by kernel_rfl
def conOp:Con PP:=⟨34,[kDi],.tup [kJo,kI],fun args r=>∃ d gs rest,DJ d gs rest∧(∀ x∈gs,x.2.map D.vv=x.2)∧args=[dDi d]∧r=.tup [dJo ⟨gs.map (·.2),d.se.length,gs.length⟩,iv 0],fun args r ⟨d,gs,rest,hd,hv,ha,hr⟩ h=>by subst ha;subst hr;exact op_ok d gs rest hd hv h⟩
theorem r3_ok(d:Di)(gs:List (Nat×List D))(rest:List (List D))(hd:DJ (rstD d) gs rest)(hv:VvD d)(hg:∀ x∈gs,x.2.map D.vv=x.2)(h:Heap):CallSd PP 19 [dDi d] h (.ret (.tup [sl 57 (recsD gs),bv true])) h:=by
 refine con_of (E:=E0) (Γ:=consΓ [conRst,conOp]) (C:=cR3) (l:=[19]) (.tup [.one (.sl 57),kB]) (show CallOk PP E0 (consΓ [conRst,conOp]) (cons PP rwR3) from cons_ok rfl) (named_plain (by kernel_rfl) (NamedT.nil (P:=PP))) rfl rfl rfl (to_wp ?_) h
 rw [t_r3]
 refine⟨_,[],⟨conRst,rfl,_,⟨d,hv,rfl,rfl⟩,rfl⟩,_,[],⟨conOp,rfl,_,⟨rstD d,gs,rest,hd,hg,rfl,rfl⟩,rfl⟩,_,_,rfl,rfl,?_⟩
 show D.tup [.sl false 57 (vvL ((gs.map (·.2)).map dSe)) .non,bv true]=_
 have e:vvL ((gs.map (·.2)).map dSe)=recsD gs:=by
  rw [vvL_map,List.map_map,List.map_map]
  refine List.map_congr_left fun x hx=>?_
  show D.sl false 5 (vvL x.2) .non=_
  rw [vvL_map,hg x hx]
 rw [e]
end Z
namespace Z
def nPf(n:Nat)(l:List (Nat×BK)):List (Nat×BK):=l++[(n,.op 57 none)]
def gPf(n:Nat)(l:List (Nat×BK)):LCfg:=⟨24,n+1,n+1,⟨[(5,.arr n),(10,.el (.one (.sl 164))),(11,sI),(12,sI)],nPf n l⟩,[(.exit 0,⟨[(5,.arr n)],nPf n l⟩)]⟩
def gPf1:LCfg:=gPf 3 [(0,.each 39 1 [.el kDi]),(1,.each 39 1 [.el kDi])]
def gPf2:LCfg:=gPf 67 []
noncomputable def cSy0:Cf:=cfq (fun _=>12) [57] [93] [] [⟨57,[kDi],.one kI⟩]
noncomputable def cSyD:Cf:={ cSy0 with find:=fun f tag c s=>if f=93∧fstReg c=3 then(if s.h.length<20 then some ((93,0),gPf1)else some ((93,1),gPf2))else none }
noncomputable abbrev lSyD:List FuncId:=[70,64,93,112,63]
noncomputable def eSyD:LId→LSt→M Rd1:=fun id L=>if id=(93,0)then gPf1.round PP (kitF PP cSyD (callT PP cSyD [112,63]) yh0 93) (lcode 93 0) L else gPf2.round PP (kitF PP cSyD (callT PP cSyD [112,63]) yh0 93) (lcode 93 0) L
def bZd:Blk:=.arr true 39 1 [D.agg [D.sl false 57 [] Tok.non,D.sl false 164 [] Tok.non,iv 0,bv false]]
theorem rd_pf1(d:Di)(w:Nat)(S:List D)(l:List Wr)(n i:Int):eSyD (93,0) ⟨[.ar false 3 0 w,sl 164 (l.map dWr),iv n,iv i],[.arr true 39 1 [dDi d],bZd,.arr false 57 w S],[]⟩=(M.br (decide (i<n)) (M.get (List.map dWr l) i fun d0=>M.need (decide ((0:Int)≤D.int (D.cell d0 0)∧D.int (D.cell d0 0)<nI w)) (M.get S (nI (0+Int.toNat (D.int (D.cell d0 0)))) fun d1=>M.pure (none,(ls [D.ar false 3 0 w,sl 164 (List.map dWr l),iv n,iv (w64 (i+(1:Int)))] [Blk.arr true 39 1 [dDi d],Blk.arr true 39 1 [D.agg [D.sl false 57 [] Tok.non,D.sl false 164 [] Tok.non,iv (0:Int),bv false]],Blk.arr false 57 w (List.set S (0+Int.toNat (D.int (D.cell d0 0))) (sl 5 (D.items (D.cell d0 1))))])))) (M.pure (some 0,(ls [D.ar false 3 0 w] [Blk.arr true 39 1 [dDi d],Blk.arr true 39 1 [D.agg [D.sl false 57 [] Tok.non,D.sl false 164 [] Tok.non,iv (0:Int),bv false]],Blk.arr false 57 w S])))):=by kernel_rfl
theorem rd_pf2(w:Nat)(S:List D)(l:List Wr)(n i:Int):eSyD (93,1) ⟨[.ar false 67 0 w,sl 164 (l.map dWr),iv n,iv i],[.arr false 57 w S],[]⟩=(M.br (decide (i<n)) (M.get (List.map dWr l) i fun d0=>M.need (decide ((0:Int)≤D.int (D.cell d0 0)∧D.int (D.cell d0 0)<nI w)) (M.get S (nI (0+Int.toNat (D.int (D.cell d0 0)))) fun d1=>M.pure (none,(ls [D.ar false 67 0 w,sl 164 (List.map dWr l),iv n,iv (w64 (i+(1:Int)))] [Blk.arr false 57 w (List.set S (0+Int.toNat (D.int (D.cell d0 0))) (sl 5 (D.items (D.cell d0 1))))])))) (M.pure (some 0,(ls [D.ar false 67 0 w] [Blk.arr false 57 w S])))):=by kernel_rfl
theorem t_syd(d:Di):callR cSyD lSyD 70 [dDi d]=(M.call 57 [dDi d] [] fun d0 o0=>M.br (D.int d0 == (0:Int)) (M.br (!!d.4) (M.pure (Rs.ret (D.tup [D.agg [D.sl true 57 [] Tok.nil,D.sl true 164 [] Tok.nil,ik (0:Int),bk false],ik (40:Int)]))) (M.br (decide (d.3≥(0:Int))) (M.br (decide (d.3<nI (List.length (List.map dWr d.2)))) (M.need (decide ((0:Int)≤(0:Int)∧(0:Int)≤d.3∧d.3≤nI (List.length (List.map dWr d.2))∧d.3=d.3)) (M.need (decide ((0:Nat)<List.length (List.map dSe d.1))) (M.need (decide ((0:Nat)<List.length (List.map dSe d.1)∧List.length (List.map dSe d.1)≤1099511627776)) (M.loop (93,0) (ls [D.ar false 3 0 (List.length (List.map dSe d.1)),sl 164 (List.take (Int.toNat d.3) (List.map dWr d.2)),iv (nI (List.length (List.take (Int.toNat d.3) (List.map dWr d.2)))),iv (0:Int)] [Blk.arr true 39 1 [dDi d],Blk.arr true 39 1 [D.agg [D.sl false 57 [] Tok.non,D.sl false 164 [] Tok.non,iv (0:Int),bv false]],Blk.arr false 57 (List.length (List.map dSe d.1)) (List.map dSe d.1)]) (fun L1=>M.get (D.items (D.cell (vb L1 0) 1)) (D.int (D.cell (vb L1 0) 2)) fun d2=>M.need (decide ((0:Int)≤D.int (D.cell d2 0)∧D.int (D.cell d2 0)<nI (D.arN (vd L1 0)))) (M.get (Blk.els (List.getD (LSt.bs L1) 2 Blk.dead)) (nI (D.arI (vd L1 0)+Int.toNat (D.int (D.cell d2 0)))) fun d3=>M.need (decide ((0:Nat)<List.length (D.items d3))) (M.need (decide ((0:Nat)<List.length (D.items d3)∧List.length (D.items d3)≤1099511627776)) (M.need (decide ((0:Int)≤(0:Int)∧(0:Int)≤(64:Int)∧(64:Int)≤nI (List.length (D.items d3)))) (M.need (decide ((0:Int)≤D.int (D.cell d2 0)∧D.int (D.cell d2 0)<nI (D.arN (vd L1 0)))) (M.get (Blk.els (List.getD (LSt.bs L1) 2 Blk.dead)) (nI (D.arI (vd L1 0)+Int.toNat (D.int (D.cell d2 0)))) fun d4=>M.pure (Rs.ret (D.tup [D.agg [D.sl false 57 (List.take (D.arN (vd L1 0)) (List.drop (D.arI (vd L1 0)) (List.set (Blk.els (List.getD (LSt.bs L1) 2 Blk.dead)) (D.arI (vd L1 0)+Int.toNat (D.int (D.cell d2 0))) (D.sl false 5 (List.take (List.length (D.items d3)) (List.drop 0 ([]++List.take (min 64 (List.length (D.items (D.cell d2 1)))) (D.items (D.cell d2 1))++List.drop (0+min 64 (List.length (D.items (D.cell d2 1)))) (D.items d3)))) Tok.non)))) Tok.non,D.sl true 164 [] Tok.nil,ik (0:Int),bk true],ik (40:Int)])))))))) (fun L1=>M.bad 154) fun L1=>M.bad 154)))) (M.need (decide ((0:Nat)<List.length (List.map dSe d.1))) (M.need (decide ((0:Nat)<List.length (List.map dSe d.1)∧List.length (List.map dSe d.1)≤1099511627776)) (M.loop (93,1) (ls [D.ar false 67 0 (List.length (List.map dSe d.1)),sl 164 (List.map dWr d.2),iv (nI (List.length (List.map dWr d.2))),iv (0:Int)] [Blk.arr false 57 (List.length (List.map dSe d.1)) (List.map dSe d.1)]) (fun L1=>M.br (decide (d.3≥(0:Int))) (M.pure (Rs.ret (D.tup [D.agg [D.sl false 57 (List.take (D.arN (vd L1 0)) (List.drop (D.arI (vd L1 0)) (Blk.els (List.getD (LSt.bs L1) 0 Blk.dead)))) Tok.non,D.sl true 164 [] Tok.nil,iv (w64 (d.3-nI (List.length (List.map dWr d.2)))),bk false],ik (0:Int)]))) (M.pure (Rs.ret (D.tup [D.agg [D.sl false 57 (List.take (D.arN (vd L1 0)) (List.drop (D.arI (vd L1 0)) (Blk.els (List.getD (LSt.bs L1) 0 Blk.dead)))) Tok.non,D.sl true 164 [] Tok.nil,iv d.3,bk false],ik (0:Int)])))) (fun L1=>M.bad 154) fun L1=>M.bad 154)))) (M.need (decide ((0:Nat)<List.length (List.map dSe d.1))) (M.need (decide ((0:Nat)<List.length (List.map dSe d.1)∧List.length (List.map dSe d.1)≤1099511627776)) (M.loop (93,1) (ls [D.ar false 67 0 (List.length (List.map dSe d.1)),sl 164 (List.map dWr d.2),iv (nI (List.length (List.map dWr d.2))),iv (0:Int)] [Blk.arr false 57 (List.length (List.map dSe d.1)) (List.map dSe d.1)]) (fun L1=>M.br (decide (d.3≥(0:Int))) (M.pure (Rs.ret (D.tup [D.agg [D.sl false 57 (List.take (D.arN (vd L1 0)) (List.drop (D.arI (vd L1 0)) (Blk.els (List.getD (LSt.bs L1) 0 Blk.dead)))) Tok.non,D.sl true 164 [] Tok.nil,iv (w64 (d.3-nI (List.length (List.map dWr d.2)))),bk false],ik (0:Int)]))) (M.pure (Rs.ret (D.tup [D.agg [D.sl false 57 (List.take (D.arN (vd L1 0)) (List.drop (D.arI (vd L1 0)) (Blk.els (List.getD (LSt.bs L1) 0 Blk.dead)))) Tok.non,D.sl true 164 [] Tok.nil,iv d.3,bk false],ik (0:Int)])))) (fun L1=>M.bad 154) fun L1=>M.bad 154))))) (M.pure (Rs.ret (D.tup [D.agg [D.sl true 57 [] Tok.nil,D.sl true 164 [] Tok.nil,ik (0:Int),bk false],ik (40:Int)])))):=by kernel_rfl
def prf(S:List (List D))(l:List Wr):List (List D):=l.foldl (fun s w=>s.set w.pos.toNat w.da) S
theorem prf_len:∀ (l:List Wr)(S:List (List D)),(prf S l).length=S.length
 | [],S=>rfl
 | w::l,S=>by
  show(prf (S.set w.pos.toNat w.da) l).length=_
  rw [prf_len l,List.length_set]
theorem pf_lp{Γ:Cn}(id:LId)(k:Nat)(pre:List Blk)(hrd:∀ (w:Nat)(S:List D)(l:List Wr)(n i:Int),eSyD id ⟨[.ar false k 0 w,sl 164 (l.map dWr),iv n,iv i],pre++[.arr false 57 w S],[]⟩=(M.br (decide (i<n)) (M.get (List.map dWr l) i fun d0=>M.need (decide ((0:Int)≤D.int (D.cell d0 0)∧D.int (D.cell d0 0)<nI w)) (M.get S (nI (0+Int.toNat (D.int (D.cell d0 0)))) fun d1=>M.pure (none,⟨[D.ar false k 0 w,sl 164 (List.map dWr l),iv n,iv (w64 (i+(1:Int)))],pre++[Blk.arr false 57 w (List.set S (0+Int.toNat (D.int (D.cell d0 0))) (sl 5 (D.items (D.cell d0 1))))],[]⟩))) (M.pure (some 0,⟨[D.ar false k 0 w],pre++[Blk.arr false 57 w S],[]⟩))))
 (S:List (List D)) (l:List Wr) (hl:∀ w∈l,0≤w.pos∧w.pos<(S.length:Int)) (hs:l.length<100000):Lp eSyD Γ id ⟨[.ar false k 0 S.length,sl 164 (l.map dWr),iv l.length,iv 0],pre++[.arr false 57 S.length (S.map dSe)],[]⟩ 0 ⟨[.ar false k 0 S.length],pre++[.arr false 57 S.length ((prf S l).map dSe)],[]⟩:=by
 have hlp:∃ j L,Lp eSyD Γ id ⟨[.ar false k 0 S.length,sl 164 (l.map dWr),iv l.length,iv (((0:Nat)):Int)],pre++[.arr false 57 S.length ((prf S (l.take 0)).map dSe)],[]⟩ j L∧j=0∧L=⟨[.ar false k 0 S.length],pre++[.arr false 57 S.length ((prf S l).map dSe)],[]⟩:=by
  refine lp_up (σ:=Unit) (fun i _=>⟨[.ar false k 0 S.length,sl 164 (l.map dWr),iv l.length,iv ((i:Nat):Int)],pre++[.arr false 57 S.length ((prf S (l.take i)).map dSe)],[]⟩) l.length (fun _ _=>True) _ (fun i _ hi _=>?_) (fun _ _=>?_) (s:=()) trivial
  ·rw [hrd]
   obtain⟨w1,w2⟩:=hl (l[i]'hi) (List.getElem_mem hi)
   have hx:=List.getElem?_eq_getElem hi
   generalize hw:l[i]'hi=w at *
   have hg:(l.map dWr)[((i:Nat):Int).toNat]?=some (dWr w):=by
    rw [Int.toNat_natCast,List.getElem?_map,hx];rfl
   have hlt:w.pos.toNat<(prf S (l.take i)).length:=by rw [prf_len];omega
   have hg2:((prf S (l.take i)).map dSe)[(nI (0+Int.toNat w.pos)).toNat]?=some (dSe ((prf S (l.take i))[w.pos.toNat]'hlt)):=by
    rw [Int.toNat_natCast,Nat.zero_add,List.getElem?_map,List.getElem?_eq_getElem hlt];rfl
   refine⟨fun _=>⟨by omega,_,hg,decide_eq_true ⟨w1,w2⟩,Int.natCast_nonneg _,_,hg2,.inl ⟨(),?_,trivial⟩⟩,fun h=>absurd (of_decide_eq_false h) (by omega)⟩
   rw [w64_id (by omega) (by omega)]
   have e:List.set ((prf S (l.take i)).map dSe) (0+Int.toNat (D.int (D.cell (dWr w) 0))) (sl 5 (D.items (D.cell (dWr w) 1)))=(prf S (l.take (i+1))).map dSe:=by
    rw [List.take_succ_eq_append_getElem hi,hw]
    unfold prf
    rw [List.foldl_append,Nat.zero_add]
    exact(List.map_set ..).symm
   rw [e]
   rfl
  rw [hrd]
  refine⟨fun h=>absurd (of_decide_eq_true h) (by omega),fun _=>⟨0,_,rfl,rfl,?_⟩⟩
  rw [List.take_length]
 obtain⟨_,_,g1,rfl,rfl⟩:=hlp
 exact g1
theorem vv_prf:∀ (l:List Wr)(S:List (List D)),(∀ s∈S,s.map D.vv=s)→(∀ w∈l,w.da.map D.vv=w.da)→∀ s∈prf S l,s.map D.vv=s:=by
 intro l
 induction l with
 | nil=>exact fun S h _=>h
 | cons w l ih =>
  intro S h1 h2
  refine ih (S.set w.pos.toNat w.da) (fun s hs=>?_) fun w hw=>h2 w (List.mem_cons_of_mem _ hw)
  rcases List.mem_or_eq_of_mem_set hs with hs|rfl
  ·exact h1 s hs
  exact h2 w (List.mem_cons_self ..)
def syD(d:Di):Di:=⟨prf d.se d.pe,[],if 0≤d.left then d.left-d.pe.length else d.left,false⟩
def tornD(d:Di)(w:Wr)(old:List D):Di:=⟨(prf d.se (d.pe.take d.left.toNat)).set w.pos.toNat (w.da.take 64++old.drop 64),[],0,true⟩
theorem named_syd:NamedT eSyD PP cSyD lSyD yh0 :=
 named_plain (by kernel_rfl) (named_plain (by kernel_rfl) (named_loops [lcode 93 0] (by kernel_rfl) (by kernel_rfl) (by kernel_rfl) (fun c hc s id g h L=>by
  rw [List.mem_singleton.1 hc]at h ⊢
  have e:cSyD.find 93 yh0.tag (lcode 93 0) s=(if s.h.length<20 then some ((93,0),gPf1)else some ((93,1),gPf2)):=by kernel_rfl
  rw [e]at h
  split at h
  ·have h:=Prod.mk.inj (Option.some.inj h)
   rw [← h.1,← h.2];rfl
  have h:=Prod.mk.inj (Option.some.inj h)
  rw [← h.1,← h.2];rfl) (named_all (List.all_eq_true.1 (by kernel_rfl:[112,63].all plainB=true)))))
theorem syd_ok(d:Di)(hd:DOk d)(hv:VvD d)(hs:d.stop=false)(hw:d.left = -1∨(d.pe.length:Int)≤d.left)(h:Heap):CallSd PP 70 [dDi d] h (.ret (.tup [dDi (syD d),iv 0])) h:=by
 refine con_of (E:=eSyD) (Γ:=consΓ (P:=PP) [conDk]) (C:=cSyD) (l:=lSyD) (.tup [kDi,kI]) (show CallOk PP eSyD (consΓ [conDk]) (cons PP [⟨57,[kDi],.one kI⟩]) from cons_ok rfl) named_syd rfl rfl rfl (to_wp ?_) h
 rw [t_syd,hs]
 have n1:=hd.n1
 have n2:=hd.n2
 have n3:=hd.p
 have e1:List.length (List.map dSe d.se)=d.se.length:=List.length_map _
 have e2:nI (List.length (List.map dWr d.pe))=(d.pe.length:Int):=by rw [List.length_map]
 rw [e1,e2]
 have hl:=pf_lp (Γ:=consΓ (P:=PP) [conDk]) (93,1) 67 [] (fun w S l n i=>rd_pf2 w S l n i) d.se d.pe (fun w hw=>⟨(hd.w w hw).1,(hd.w w hw).2.1⟩) (by omega)
 have hvs:=vv_prf d.pe d.se hv.s hv.w
 have hres:∀ x:Int,Res (.tup [kDi,kI]) (.tup [dDi ⟨prf d.se d.pe,[],x,false⟩,iv 0]) (Rs.ret (D.tup [D.agg [D.sl false 57 (List.take d.se.length (List.drop 0 ((prf d.se d.pe).map dSe))) Tok.non,D.sl true 164 [] Tok.nil,iv x,bk false],ik (0:Int)])):=fun x=>by
  rw [List.drop_zero,List.take_of_length_le (by rw [List.length_map,prf_len];exact Nat.le_refl _)]
  refine⟨_,_,rfl,rfl,?_⟩
  show D.tup [(dDi ⟨prf d.se d.pe,[],x,false⟩).vv,iv 0]=_
  rw [vv_di (d:=⟨prf d.se d.pe,[],x,false⟩) ⟨hvs,fun w hw=>nomatch hw⟩]
 refine⟨_,[],⟨conDk,rfl,_,⟨d,hd,rfl,rfl⟩,rfl⟩,fun _=>⟨(fun q=>nomatch q),fun _=>⟨fun q1=>⟨fun q=>?_,fun _=>⟨decide_eq_true (by omega),decide_eq_true (by omega),.inl ⟨_,hl,fun _=>?_,fun q=>Bool.noConfusion (q1.symm.trans q)⟩⟩⟩,fun q1=>⟨decide_eq_true (by omega),decide_eq_true (by omega),.inl ⟨_,hl,fun q=>Bool.noConfusion (q1.symm.trans q),fun _=>?_⟩⟩⟩⟩,fun q=>nomatch q⟩
 ·have q:=of_decide_eq_true q
  have q1:=of_decide_eq_true q1
  omega
 ·have q1:=of_decide_eq_true q1
  rw [w64_id (by omega) (by have:=hd.l2;omega)]
  have e:syD d=⟨prf d.se d.pe,[],d.left-d.pe.length,false⟩:=by unfold syD;rw [if_pos q1]
  rw [e]
  exact hres _
 have q1:=of_decide_eq_false q1
 have e:syD d=⟨prf d.se d.pe,[],d.left,false⟩:=by unfold syD;rw [if_neg q1]
 rw [e]
 exact hres _
theorem syt_ok(d:Di)(hd:DOk d)(hv:VvD d)(hs:d.stop=false)(w:Wr)(old:List D)(h0:0≤d.left)(hw:d.pe[d.left.toNat]?=some w)(ho:(prf d.se (d.pe.take d.left.toNat))[w.pos.toNat]?=some old)(hol:old.length=128)(h:Heap):CallSd PP 70 [dDi d] h (.ret (.tup [dDi (tornD d w old),iv 40])) h:=by
 refine con_of (E:=eSyD) (Γ:=consΓ (P:=PP) [conDk]) (C:=cSyD) (l:=lSyD) (.tup [kDi,kI]) (show CallOk PP eSyD (consΓ [conDk]) (cons PP [⟨57,[kDi],.one kI⟩]) from cons_ok rfl) named_syd rfl rfl rfl (to_wp ?_) h
 rw [t_syd,hs]
 have n1:=hd.n1
 have n2:=hd.n2
 have n3:=hd.p
 obtain⟨hlt,hw'⟩:=List.getElem?_eq_some_iff.1 hw
 have hwm:=List.mem_of_getElem? hw
 obtain⟨w1,w2,w3⟩:=hd.w w hwm
 have e1:List.length (List.map dSe d.se)=d.se.length:=List.length_map _
 have e2:nI (List.length (List.map dWr d.pe))=(d.pe.length:Int):=by rw [List.length_map]
 have e3:List.take (Int.toNat d.left) (List.map dWr d.pe)=(d.pe.take d.left.toNat).map dWr:=List.map_take.symm
 have e4:nI (List.length ((d.pe.take d.left.toNat).map dWr))=((d.pe.take d.left.toNat).length:Int):=by rw [List.length_map]
 rw [e1,e2,e3,e4]
 have hl:=pf_lp (Γ:=consΓ (P:=PP) [conDk]) (93,0) 3 [.arr true 39 1 [dDi d],bZd] (fun w S l n i=>rd_pf1 d w S l n i) d.se (d.pe.take d.left.toNat) (fun w hw=>⟨(hd.w w (List.mem_of_mem_take hw)).1,(hd.w w (List.mem_of_mem_take hw)).2.1⟩) (by rw [List.length_take];omega)
 have hg:(d.pe.map dWr)[d.left.toNat]?=some (dWr w):=by rw [List.getElem?_map,hw];rfl
 have hg2:((prf d.se (d.pe.take d.left.toNat)).map dSe)[(nI (0+Int.toNat w.pos)).toNat]?=some (dSe old):=by
  rw [Int.toNat_natCast,Nat.zero_add,List.getElem?_map,ho];rfl
 have hvo:old.map D.vv=old:=vv_prf _ _ hv.s (fun w hw=>hv.w w (List.mem_of_mem_take hw)) old (List.mem_of_getElem? ho)
 refine⟨_,[],⟨conDk,rfl,_,⟨d,hd,rfl,rfl⟩,rfl⟩,fun _=>⟨(fun q=>nomatch q),fun _=>⟨fun _=>⟨fun _=>⟨decide_eq_true (by omega),decide_eq_true (by omega),decide_eq_true (by omega),.inl ⟨_,hl,h0,dWr w,hg,decide_eq_true ⟨w1,w2⟩,Int.natCast_nonneg _,dSe old,hg2,?_,?_,?_,decide_eq_true ⟨w1,w2⟩,Int.natCast_nonneg _,dSe old,hg2,?_⟩⟩,fun q=>absurd (of_decide_eq_false q) (by omega)⟩,fun q=>absurd (of_decide_eq_false q) (by omega)⟩⟩,fun q=>nomatch q⟩
 ·exact decide_eq_true (show 0<old.length by omega)
 ·exact decide_eq_true (show 0<old.length∧old.length≤1099511627776 by omega)
 ·exact decide_eq_true (show(0:Int)≤0∧(0:Int)≤64∧(64:Int)≤(old.length:Int) by omega)
 have ed:List.take old.length (List.drop 0 ([]++List.take (min 64 w.da.length) w.da++List.drop (0+min 64 w.da.length) old))=w.da.take 64++old.drop 64:=by
  rw [w3,show min 64 128=64 from rfl,Nat.zero_add,List.drop_zero,List.nil_append,List.take_of_length_le]
  rw [List.length_append,List.length_take,List.length_drop];omega
 have es:List.take d.se.length (List.drop 0 (List.set ((prf d.se (d.pe.take d.left.toNat)).map dSe) (0+Int.toNat w.pos) (dSe (w.da.take 64++old.drop 64))))=(tornD d w old).se.map dSe:=by
  rw [List.drop_zero,List.take_of_length_le (by rw [List.length_set,List.length_map,prf_len];exact Nat.le_refl _),Nat.zero_add]
  exact(List.map_set ..).symm
 refine⟨_,_,rfl,rfl,?_⟩
 show D.tup [(D.agg [.sl false 57 (List.take d.se.length (List.drop 0 (List.set ((prf d.se (d.pe.take d.left.toNat)).map dSe) (0+Int.toNat w.pos) (D.sl false 5 (List.take old.length (List.drop 0 ([]++List.take (min 64 w.da.length) w.da++List.drop (0+min 64 w.da.length) old))) .non)))) .non,.sl false 164 [] .non,iv 0,bv true]).vv,iv 40]=_
 rw [ed,es]
 have hvv:=vv_di (d:=tornD d w old) ⟨fun s hs=>?_,fun w hw=>nomatch hw⟩
 ·exact congrArg (fun x=>D.tup [x,iv 40]) hvv
 rcases List.mem_or_eq_of_mem_set hs with hs|rfl
 ·exact vv_prf _ _ hv.s (fun w hw=>hv.w w (List.mem_of_mem_take hw)) s hs
 rw [List.map_append,List.map_take,List.map_drop,hv.w w hwm,hvo]
def conSyD:Con PP:=⟨70,[kDi],.tup [kDi,kI],fun args r=>∃ d,DOk d∧VvD d∧d.stop=false∧args=[dDi d]∧(((d.left = -1∨(d.pe.length:Int)≤d.left)∧r=.tup [dDi (syD d),iv 0])∨∃ w old,0≤d.left∧d.pe[d.left.toNat]?=some w∧(prf d.se (d.pe.take d.left.toNat))[w.pos.toNat]?=some old∧old.length=128∧r=.tup [dDi (tornD d w old),iv 40]),fun args r hr h=>by
 obtain⟨d,hd,hv,hs,rfl,⟨hw,rfl⟩|⟨w,old,h0,hw,ho,hl,rfl⟩⟩:=hr
 ·exact syd_ok d hd hv hs hw h
 exact syt_ok d hd hv hs w old h0 hw ho hl h⟩
end Z
namespace Z
def rwWt:List CRow:=[⟨57,[kDi],.one kI⟩,⟨90,[.one (.sl 164)],.one (.one (.sl 164))⟩]
noncomputable def cWt:Cf:=cf [57,90] [] rwWt
theorem t_wt(d:Di)(p:Int)(b:List D):callR cWt [68,64,88,89] 68 [dDi d,iv p,sl 5 b]=(M.call 57 [dDi d] [] fun d0 o0=>M.br (D.int d0 == (0:Int)) (M.br (!!d.4) (M.pure (Rs.ret (D.tup [D.agg [D.sl true 57 [] Tok.nil,D.sl true 164 [] Tok.nil,ik (0:Int),bk false],ik (40:Int)]))) (M.br (decide (p≥(0:Int))) (M.br (!decide (p<nI (List.length (List.map dSe d.1)))) (M.pure (Rs.ret (D.tup [D.agg [D.sl true 57 [] Tok.nil,D.sl true 164 [] Tok.nil,ik (0:Int),bk false],ik (40:Int)]))) (M.br (decide (nI (List.length b)>(128:Int))) (M.pure (Rs.ret (D.tup [D.agg [D.sl true 57 [] Tok.nil,D.sl true 164 [] Tok.nil,ik (0:Int),bk false],ik (1:Int)]))) (M.br (nI (List.length (List.map dWr d.2)) == (4096:Int)) (M.pure (Rs.ret (D.tup [D.agg [D.sl true 57 [] Tok.nil,D.sl true 164 [] Tok.nil,ik (0:Int),bk false],ik (2:Int)]))) (M.call 90 [sl 164 (List.map dWr d.2)] [] fun d1 o1=>M.need (decide ((0:Int)≤(0:Int)∧(0:Int)≤nI (List.length (D.items d1))∧nI (List.length (D.items d1))≤nI (List.length (D.items d1))∧nI (List.length (D.items d1))=nI (List.length (D.items d1)))) (M.need (decide (List.length (List.take (Int.toNat (nI (List.length (D.items d1)))) (D.items d1))+(1:Nat)≤1099511627776)) (M.pure (Rs.ret (D.tup [D.agg [sl 57 (List.map dSe d.1),D.sl false 164 (List.take (Int.toNat (nI (List.length (D.items d1)))) (D.items d1)++[D.agg [iv p,D.sl false 5 (List.take 128 (List.drop 0 ([]++List.take (min 128 (List.length b)) b++List.drop (0+min 128 (List.length b)) (zr 128 z0)))) Tok.non]]) (Tok.tip 5),iv d.3,bv d.4],ik (0:Int)])))))))) (M.pure (Rs.ret (D.tup [D.agg [D.sl true 57 [] Tok.nil,D.sl true 164 [] Tok.nil,ik (0:Int),bk false],ik (40:Int)]))))) (M.pure (Rs.ret (D.tup [D.agg [D.sl true 57 [] Tok.nil,D.sl true 164 [] Tok.nil,ik (0:Int),bk false],ik (40:Int)])))):=by kernel_rfl
theorem t_cw0  : callR cSec [90] 90 [.k (.slice none 0 0)]=(M.pure (Rs.ret (D.k (Value.slice none 0 0)))):=by kernel_rfl
theorem t_cw1(c:Nat):callR cSec [90] 90 [.k (.slice none 0 (c+1))]=(M.pure (Rs.ret (D.k (Value.slice none 0 0)))):=by kernel_rfl
theorem t_cw2(a:Addr)(c:Nat):callR cSec [90] 90 [.k (.slice (some a) 0 c)]=(M.pure (Rs.ret (D.sl true 164 [] (Tok.tip 0)))):=by kernel_rfl
theorem t_cw3(b:List D):callR cSec [90] 90 [sl 164 b]=(M.need (decide ((0:Nat)<List.length b)) (M.need (decide ((0:Nat)<List.length b∧List.length b≤1099511627776)) (M.pure (Rs.ret (sl 164 (List.take (List.length b) b)))))):=by kernel_rfl
theorem clone_ok{f:FuncId}{t:TypeId}(hN:NamedT E0 PP cSec [f] yh0)(h0:callR cSec [f] f [.k (.slice none 0 0)]=.pure (.ret (.k (.slice none 0 0))))(h1:∀ c,callR cSec [f] f [.k (.slice none 0 (c+1))]=.pure (.ret (.k (.slice none 0 0))))(h2:∀ a c,callR cSec [f] f [.k (.slice (some a) 0 c)]=.pure (.ret (.sl true t [] (.tip 0))))
 (h3:∀ b,callR cSec [f] f [sl t b]=.need (decide (0<b.length)) (.need (decide (0<b.length∧b.length≤1099511627776)) (.pure (.ret (sl t (b.take b.length)))))) (l:List D) (hv:l.map D.vv=l) (hs:l.length<1000000) (h:Heap):CallSd PP f [sl t l] h (.ret (sl t l)) h:=by
 by_cases hl:l=[]
 ·subst hl
  clear hs hv
  intro w0 ms α I W xs hi hlen hx
  have hsz:xs.size=1:=by simpa using hlen.symm
  have hd0:=hx 0 (sl t []) (xs[0]'(by omega)) rfl (Array.getElem?_eq_getElem _)
  generalize hx0:xs[0]'(by omega)=x at hd0
  cases hd0 with
  | @sl _ _ _ _ _ A c hc hk hm =>
   have key:CallSd PP f [.k (.slice A 0 c)] h (.ret (sl t [])) h:=by
    cases A with
    | none =>
     refine CallSd.res (d:=.v (.slice none 0 0)) (con_of (E:=E0) (Γ:=consΓ (P:=PP) []) (C:=cSec) (l:=[f]) (.one (.one .o)) (cons_ok rfl) hN rfl rfl rfl (to_wp ?_) h) fun hd=>?_
     ·cases c with
      | zero=>rw [h0];exact⟨_,_,rfl,rfl,rfl⟩
      | succ c=>rw [h1];exact⟨_,_,rfl,rfl,rfl⟩
     cases hd
     exact .sl (l:=[]) (Nat.zero_le _) trivial fun h=>absurd rfl h
    | some a =>
     refine con_of (E:=E0) (Γ:=consΓ (P:=PP) []) (C:=cSec) (l:=[f]) (.one (.one (.sl t))) (cons_ok rfl) hN rfl rfl rfl (to_wp ?_) h
     rw [h2]
     exact⟨_,_,rfl,(if_pos rfl),rfl⟩
   refine key w0 ms α I W xs hi (by simpa using hsz.symm) fun j d y g1 g2=>?_
   match j,g1,g2 with
   | 0,g1,g2 =>
    obtain rfl:=Option.some.inj g1
    rw [Array.getElem?_eq_getElem (by omega)]at g2
    obtain rfl:=Option.some.inj g2
    rw [hx0]
    exact .k rfl
   | j+1,g1,g2=>simp at g1
 refine con_of (E:=E0) (Γ:=consΓ (P:=PP) []) (C:=cSec) (l:=[f]) (.one (.one (.sl t))) (cons_ok rfl) hN rfl rfl rfl (to_wp ?_) h
 rw [h3]
 have hp:0<l.length:=List.length_pos_iff.2 hl
 refine⟨decide_eq_true hp,decide_eq_true ⟨hp,by omega⟩,_,_,rfl,(if_pos rfl),?_⟩
 show D.sl false t (vvL (l.take l.length)) .non=_
 rw [List.take_length,vvL_map,hv]
def conCw:Con PP:=⟨90,[.one (.sl 164)],.one (.one (.sl 164)),fun args d=>∃ l:List D,l.map D.vv=l∧l.length<1000000∧args=[sl 164 l]∧d=sl 164 l,fun args d ⟨l,hv,hs,ha,hd⟩ h=>by subst ha;subst hd;exact clone_ok (named_plain (by kernel_rfl) (NamedT.nil (P:=PP))) t_cw0 t_cw1 t_cw2 t_cw3 l hv hs h⟩
theorem wt_ok(d:Di)(p:Int)(b:List D)(hd:DOk d)(hv:VvD d)(hs:d.stop=false)(h0:0≤p)(h1:p<d.se.length)(hb:b.length=128)(hbv:b.map D.vv=b)(hp:d.pe.length<4096)(h:Heap):CallSd PP 68 [dDi d,iv p,sl 5 b] h (.ret (.tup [dDi { d with pe:=d.pe++[⟨p,b⟩] },iv 0])) h:=by
 refine con_of (E:=E0) (Γ:=consΓ [conDk,conCw]) (C:=cWt) (l:=[68,64,88,89]) (.tup [kDi,kI]) (show CallOk PP E0 (consΓ [conDk,conCw]) (cons PP rwWt) from cons_ok rfl) (named_all (List.all_eq_true.1 (by kernel_rfl:[68,64,88,89].all plainB=true))) rfl rfl rfl (to_wp ?_) h
 rw [t_wt,hs]
 have e1:nI (d.se.map dSe).length=(d.se.length:Int):=by rw [List.length_map]
 have e2:nI (d.pe.map dWr).length=(d.pe.length:Int):=by rw [List.length_map]
 refine⟨_,[],⟨conDk,rfl,_,⟨d,hd,rfl,rfl⟩,rfl⟩,fun _=>⟨(fun q=>nomatch q),fun _=>⟨fun _=>⟨fun q=>?_,fun _=>⟨fun q=>absurd (of_decide_eq_true q) (by rw [hb];decide),fun _=>⟨fun q=>?_,fun _=>⟨sl 164 (d.pe.map dWr),[],⟨conCw,rfl,_,⟨d.pe.map dWr,vv_wrs hv.w,by rw [List.length_map];omega,rfl,rfl⟩,rfl⟩,decide_eq_true ⟨Int.le_refl _,Int.natCast_nonneg _,Int.le_refl _,rfl⟩,?_⟩⟩⟩⟩,fun q=>absurd (of_decide_eq_false q) (by omega)⟩⟩,fun q=>nomatch q⟩
 ·rw [e1,decide_eq_true h1]at q;cases q
 ·rw [e2,beq_iff_eq]at q;omega
 rw [show List.take (Int.toNat (nI (List.length (D.items (sl 164 (d.pe.map dWr)))))) (D.items (sl 164 (d.pe.map dWr)))=d.pe.map dWr from(congrArg (fun n=>List.take n (d.pe.map dWr)) (Int.toNat_natCast _)).trans List.take_length]
 have eb:List.take 128 (List.drop 0 ([]++List.take (min 128 (List.length b)) b++List.drop (0+min 128 (List.length b)) (zr 128 z0)))=b:=by
  rw [hb,zr_eq,List.drop_zero,List.nil_append,Nat.min_self,Nat.zero_add,List.drop_of_length_le (by simp),List.append_nil,List.take_take,Nat.min_self,List.take_of_length_le (by omega)]
 rw [eb]
 refine⟨decide_eq_true (by rw [List.length_map];omega),_,_,rfl,rfl,?_⟩
 show D.tup [.agg [.sl false 57 (vvL (d.se.map dSe)) .non,.sl false 164 (vvL (d.pe.map dWr++[dWr ⟨p,b⟩])) .non,iv d.left,bv false],iv 0]=_
 have e3:=vv_di (d:={ d with pe:=d.pe++[⟨p,b⟩],stop:=false }) ⟨hv.s,fun w hw=>by
  rcases List.mem_append.1 hw with hw|hw
  ·exact hv.w w hw
  rw [List.mem_singleton.1 hw];exact hbv⟩
 unfold dDi at e3
 simp only [D.vv,vvL,List.map_append,List.map_cons,List.map_nil]at e3
 unfold dDi
 simp only [List.map_append,List.map_cons,List.map_nil,hs]
 injection e3 with e3
 rw [List.cons.injEq,List.cons.injEq]at e3
 rw [e3.1,e3.2.1]
def conWt:Con PP:=⟨68,[kDi,kI,.one (.sl 5)],.tup [kDi,kI],fun args r=>∃ d p b,DOk d∧VvD d∧d.stop=false∧0≤p∧p<(d.se.length:Int)∧b.length=128∧b.map D.vv=b∧d.pe.length<4096∧args=[dDi d,iv p,sl 5 b]∧r=.tup [dDi { d with pe:=d.pe++[⟨p,b⟩] },iv 0],fun args r ⟨d,p,b,hd,hv,hs,h0,h1,hb,hbv,hp,ha,hr⟩ h=>by subst ha;subst hr;exact wt_ok d p b hd hv hs h0 h1 hb hbv hp h⟩
end Z
namespace Z
def gEf:LCfg:=⟨32,4,4,⟨[(1,.el (.one (.sl 57))),(2,.fix (.fn (.func 67) [] [])),(15,.el (.one (.sl 57))),(16,sI),(17,sI)],[]⟩,[(.exit 0,⟨[],[]⟩),(.ret,⟨[(6,.el kB)],[]⟩)]⟩
def rwEf:List CRow:=[⟨67,[.one (.sl 5),.one (.sl 5)],.one (.one .b)⟩]
noncomputable def cEf:Cf:=cf [67] [⟨66,0,4,(66,0),gEf⟩] rwEf
noncomputable def eEf:LId→LSt→M Rd1:=fun id L=>gEf.round PP (kitF PP cEf (callT PP cEf []) yh0 66) (lcode 66 0) L
theorem t_ef(a b:List D):callR cEf [66] 66 [sl 57 a,sl 57 b,.fn (.func 67) [] []]=(M.br (nI (List.length a) != nI (List.length b)) (M.pure (Rs.ret (bk false))) (M.loop (66,0) (ls [sl 57 b,D.fn (Fn.func 67) [] [],sl 57 a,iv (nI (List.length a)),iv (0:Int)] []) (fun L0=>M.pure (Rs.ret (bk true))) (fun L0=>M.pure (Rs.ret (bv (D.bool (vd L0 0))))) fun L0=>M.bad 154)):=by kernel_rfl
theorem rd_ef(a b:List D)(n i:Int):eEf (66,0) ⟨[sl 57 b,.fn (.func 67) [] [],sl 57 a,iv n,iv i],[],[]⟩=(M.br (decide (i<n)) (M.get a i fun d0=>M.get b i fun d1=>M.call 67 [sl 5 (D.items d0),sl 5 (D.items d1)] [] fun d2 o2=>M.br (!D.bool d2) (M.pure (some 1,(ls [bv false] []))) (M.pure (none,(ls [sl 57 b,D.fn (Fn.func 67) [] [],sl 57 a,iv n,iv (w64 (i+(1:Int)))] [])))) (M.pure (some 0,(ls [] [])))):=by kernel_rfl
def rwJs:List CRow:=[⟨57,[kDi],.one kI⟩,⟨59,[kJo],.one kI⟩,⟨34,[kDi],.tup [kJo,kI]⟩,⟨65,[.one (.sl 5)],.one (.one (.i .u64))⟩,⟨66,[.one (.sl 57),.one (.sl 57),.one .o],.one kB⟩,⟨61,[.one (.sl 57)],.one kI⟩,⟨60,[.one (.sl 5)],.one kI⟩,⟨69,[.one (.i .u64),kI,.one (.i .u8),.one (.sl 5)],.one (.one (.sl 5))⟩,⟨68,[kDi,kI,.one (.sl 5)],.tup [kDi,kI]⟩,⟨70,[kDi],.tup [kDi,kI]⟩]
def nJs:List (Nat×BK):=[(0,.each 98 1 [.el kJo]),(1,.each 39 1 [.el kDi]),(2,.each 98 1 [.el kJo]),(3,.each 39 1 [.el kDi])]
def nJs1:List (Nat×BK):=nJs++[(4,.each 98 1 [.el kJo])]
def pJs:List (Tmp×SK):=[(2,.fix (.p 0 0 0)),(3,.fix (.p 1 0 0)),(4,.fix (.p 2 0 0)),(5,.fix (.p 3 0 0)),(10,.el (.one (.i .u64)))]
def gJs1:LCfg:=⟨167,5,5,⟨pJs++[(9,.fix (.p 4 0 0)),(57,.el (.one (.sl 57))),(58,sI),(59,sI)],nJs1⟩,[(.exit 0,⟨pJs++[(9,.fix (.p 4 0 0))],nJs1⟩)]⟩
def pJs2:List (Tmp×SK):=pJs++[(13,sI),(108,.el (.one (.sl 57))),(109,sI),(110,sI)]
def gJs2:LCfg:=⟨167,5,5,⟨pJs2,nJs⟩,[(.exit 2,⟨pJs,nJs⟩)]⟩
def gJs3:LCfg:=⟨167,5,5,⟨pJs2++[(15,.el (.one (.sl 5))),(16,.el (.one (.i .u8))),(17,sI)],nJs⟩,[(.exit 4,⟨pJs2,nJs⟩)]⟩
noncomputable def cJs:Cf:=cf [57,59,34,65,66,61,60,69,68,70] [⟨37,0,14,(37,0),gJs1⟩,⟨37,0,24,(37,1),gJs2⟩,⟨37,0,28,(37,2),gJs3⟩] rwJs
noncomputable def eJs:LId→LSt→M Rd1:=fun id L=>if id=(37,0)then gJs1.round PP (kitF PP cJs (callT PP cJs []) yh0 37) (lcode 37 0) L else if id=(37,1)then gJs2.round PP (kitF PP cJs (callT PP cJs []) yh0 37) (lcode 37 1) L else gJs3.round PP (kitF PP cJs (callT PP cJs []) yh0 37) (lcode 37 2) L
abbrev bJs (j:Jo) (d:Di) (x:Jo) (y:Di):List Blk:=[.arr true 98 1 [dJo j],.arr true 39 1 [dDi d],.arr true 98 1 [dJo x],.arr true 39 1 [dDi y]]
abbrev sJs (g:Int):List D:=[.p 0 0 0,.p 1 0 0,.p 2 0 0,.p 3 0 0,.v (.int .u64 g)]
theorem t_js(j:Jo)(d:Di):callR cJs [37] 37 [dJo j,dDi d]=(M.call 59 [dJo j] [] fun d0 o0=>M.br (D.int d0 != (0:Int)) (M.pure (Rs.ret (D.tup [D.agg [D.sl true 57 [] Tok.nil,ik (0:Int),ik (0:Int)],D.agg [D.sl true 57 [] Tok.nil,D.sl true 164 [] Tok.nil,ik (0:Int),bk false],iv (D.int d0)]))) (M.call 57 [dDi d] [] fun d1 o1=>M.br (D.int d1 != (0:Int)) (M.pure (Rs.ret (D.tup [D.agg [D.sl true 57 [] Tok.nil,ik (0:Int),ik (0:Int)],D.agg [D.sl true 57 [] Tok.nil,D.sl true 164 [] Tok.nil,ik (0:Int),bk false],iv (D.int d1)]))) (M.br (j.2 != nI (List.length (List.map dSe d.1))) (M.br (!d.4) (M.pure (Rs.ret (D.tup [D.agg [D.sl true 57 [] Tok.nil,ik (0:Int),ik (0:Int)],D.agg [D.sl true 57 [] Tok.nil,D.sl true 164 [] Tok.nil,ik (0:Int),bk false],ik (1:Int)]))) (M.call 34 [dDi d] [] fun d2 o2=>M.br (D.int (List.getD (D.parts d2) 1 D.any) != (0:Int)) (M.pure (Rs.ret (D.tup [D.agg [D.sl true 57 [] Tok.nil,ik (0:Int),ik (0:Int)],D.agg [D.sl true 57 [] Tok.nil,D.sl true 164 [] Tok.nil,ik (0:Int),bk false],iv (D.int (List.getD (D.parts d2) 1 D.any))]))) (M.loop (37,0) (ls [D.p 0 0 0,D.p 1 0 0,D.p 2 0 0,D.p 3 0 0,D.v (Value.int IntKind.u64 (1:Int)),D.p 4 0 0,sl 57 (List.map dSe d.1),iv (nI (List.length (List.map dSe d.1))),iv (0:Int)] [Blk.arr true 98 1 [dJo j],Blk.arr true 39 1 [dDi d],Blk.arr true 98 1 [D.agg [D.sl false 57 [] Tok.non,iv (0:Int),iv (0:Int)]],Blk.arr true 39 1 [D.agg [D.sl false 57 [] Tok.non,D.sl false 164 [] Tok.non,iv (0:Int),bv false]],Blk.arr true 98 1 [D.agg [D.sl false 57 (D.items (D.cell (List.getD (D.parts d2) 0 D.any) 0)) Tok.non,iv (D.int (D.cell (List.getD (D.parts d2) 0 D.any) 1)),iv (D.int (D.cell (List.getD (D.parts d2) 0 D.any) 2))]]]) (fun L3=>M.need (decide ((0:Int)≤(0:Int)∧(0:Int)≤D.int (D.cell (vb L3 0) 2)∧D.int (D.cell (vb L3 0) 2)≤nI (List.length (D.items (D.cell (vb L3 0) 0))))) (M.call 66 [sl 57 (D.items (D.cell (vb L3 4) 0)),D.sl false 57 (List.take (Int.toNat (D.int (D.cell (vb L3 0) 2))) (D.items (D.cell (vb L3 0) 0))) Tok.non,D.fn (Fn.func 67) [] []] [] fun d4 o4=>M.br (!D.bool d4) (M.pure (Rs.ret (D.tup [D.agg [D.sl true 57 [] Tok.nil,ik (0:Int),ik (0:Int)],D.agg [D.sl true 57 [] Tok.nil,D.sl true 164 [] Tok.nil,ik (0:Int),bk false],ik (50:Int)]))) (M.br (Int.fdiv (D.int (vd L3 4)) ((2:Int) ^ 32) != (0:Int)) (M.pure (Rs.ret (D.tup [D.agg [D.sl true 57 [] Tok.nil,ik (0:Int),ik (0:Int)],D.agg [D.sl true 57 [] Tok.nil,D.sl true 164 [] Tok.nil,ik (0:Int),bk false],ik (50:Int)]))) (M.br (D.int (D.cell (vb L3 0) 2) == nI (List.length (D.items (D.cell (vb L3 0) 0)))) (M.pure (Rs.ret (D.tup [D.agg [sl 57 (D.items (D.cell (vb L3 0) 0)),iv (D.int (D.cell (vb L3 0) 1)),iv (D.int (D.cell (vb L3 0) 2))],D.agg [sl 57 (D.items (D.cell (vb L3 1) 0)),sl 164 (D.items (D.cell (vb L3 1) 1)),iv (D.int (D.cell (vb L3 1) 2)),bv (D.bool (D.cell (vb L3 1) 3))],ik (0:Int)]))) (M.need (decide ((0:Int)≤(0:Int)∧(0:Int)≤D.int (D.cell (vb L3 0) 2)∧D.int (D.cell (vb L3 0) 2)≤nI (List.length (D.items (D.cell (vb L3 0) 0))))) (M.call 61 [D.sl false 57 (List.take (Int.toNat (D.int (D.cell (vb L3 0) 2))) (D.items (D.cell (vb L3 0) 0))) Tok.non] [] fun d5 o5=>M.need (decide ((0:Int)≤D.int (D.cell (vb L3 0) 2)∧D.int (D.cell (vb L3 0) 2)≤nI (List.length (D.items (D.cell (vb L3 0) 0)))∧nI (List.length (D.items (D.cell (vb L3 0) 0)))≤nI (List.length (D.items (D.cell (vb L3 0) 0))))) (M.loop (37,1) (ls [D.p 0 0 0,D.p 1 0 0,D.p 2 0 0,D.p 3 0 0,D.v (Value.int IntKind.u64 (D.int (vd L3 4))),iv (D.int d5),D.sl false 57 (List.drop (Int.toNat (D.int (D.cell (vb L3 0) 2))) (D.items (D.cell (vb L3 0) 0))) Tok.non,iv (nI (List.length (List.drop (Int.toNat (D.int (D.cell (vb L3 0) 2))) (D.items (D.cell (vb L3 0) 0))))),iv (0:Int)] [Blk.arr true 98 1 [D.agg [sl 57 (D.items (D.cell (vb L3 0) 0)),iv (D.int (D.cell (vb L3 0) 1)),iv (D.int (D.cell (vb L3 0) 2))]],Blk.arr true 39 1 [D.agg [sl 57 (D.items (D.cell (vb L3 1) 0)),sl 164 (D.items (D.cell (vb L3 1) 1)),iv (D.int (D.cell (vb L3 1) 2)),bv (D.bool (D.cell (vb L3 1) 3))]],Blk.arr true 98 1 [D.agg [sl 57 (D.items (D.cell (vb L3 2) 0)),iv (D.int (D.cell (vb L3 2) 1)),iv (D.int (D.cell (vb L3 2) 2))]],Blk.arr true 39 1 [D.agg [sl 57 (D.items (D.cell (vb L3 3) 0)),sl 164 (D.items (D.cell (vb L3 3) 1)),iv (D.int (D.cell (vb L3 3) 2)),bv (D.bool (D.cell (vb L3 3) 3))]]]) (fun L6=>M.call 70 [D.agg [sl 57 (D.items (D.cell (vb L6 1) 0)),sl 164 (D.items (D.cell (vb L6 1) 1)),iv (D.int (D.cell (vb L6 1) 2)),bv (D.bool (D.cell (vb L6 1) 3))]] [] fun d7 o7=>M.br (D.int (List.getD (D.parts d7) 1 D.any) != (0:Int)) (M.pure (Rs.ret (D.tup [D.agg [D.sl true 57 [] Tok.nil,ik (0:Int),ik (0:Int)],D.agg [D.sl false 57 (D.items (D.cell (List.getD (D.parts d7) 0 D.any) 0)) Tok.non,D.sl false 164 (D.items (D.cell (List.getD (D.parts d7) 0 D.any) 1)) Tok.non,iv (D.int (D.cell (List.getD (D.parts d7) 0 D.any) 2)),bv (D.bool (D.cell (List.getD (D.parts d7) 0 D.any) 3))],iv (D.int (List.getD (D.parts d7) 1 D.any))]))) (M.pure (Rs.ret (D.tup [D.agg [sl 57 (D.items (D.cell (vb L6 0) 0)),iv (D.int (D.cell (vb L6 0) 1)),iv (nI (List.length (D.items (D.cell (vb L6 0) 0))))],D.agg [D.sl false 57 (D.items (D.cell (List.getD (D.parts d7) 0 D.any) 0)) Tok.non,D.sl false 164 (D.items (D.cell (List.getD (D.parts d7) 0 D.any) 1)) Tok.non,iv (D.int (D.cell (List.getD (D.parts d7) 0 D.any) 2)),bv (D.bool (D.cell (List.getD (D.parts d7) 0 D.any) 3))],ik (0:Int)])))) (fun L6=>M.bad 154) fun L6=>M.bad 154))))))) (fun L3=>M.bad 154) fun L3=>M.bad 154))) (M.call 34 [dDi d] [] fun d2 o2=>M.br (D.int (List.getD (D.parts d2) 1 D.any) != (0:Int)) (M.pure (Rs.ret (D.tup [D.agg [D.sl true 57 [] Tok.nil,ik (0:Int),ik (0:Int)],D.agg [D.sl true 57 [] Tok.nil,D.sl true 164 [] Tok.nil,ik (0:Int),bk false],iv (D.int (List.getD (D.parts d2) 1 D.any))]))) (M.loop (37,0) (ls [D.p 0 0 0,D.p 1 0 0,D.p 2 0 0,D.p 3 0 0,D.v (Value.int IntKind.u64 (1:Int)),D.p 4 0 0,sl 57 (List.map dSe d.1),iv (nI (List.length (List.map dSe d.1))),iv (0:Int)] [Blk.arr true 98 1 [dJo j],Blk.arr true 39 1 [dDi d],Blk.arr true 98 1 [D.agg [D.sl false 57 [] Tok.non,iv (0:Int),iv (0:Int)]],Blk.arr true 39 1 [D.agg [D.sl false 57 [] Tok.non,D.sl false 164 [] Tok.non,iv (0:Int),bv false]],Blk.arr true 98 1 [D.agg [D.sl false 57 (D.items (D.cell (List.getD (D.parts d2) 0 D.any) 0)) Tok.non,iv (D.int (D.cell (List.getD (D.parts d2) 0 D.any) 1)),iv (D.int (D.cell (List.getD (D.parts d2) 0 D.any) 2))]]]) (fun L3=>M.need (decide ((0:Int)≤(0:Int)∧(0:Int)≤D.int (D.cell (vb L3 0) 2)∧D.int (D.cell (vb L3 0) 2)≤nI (List.length (D.items (D.cell (vb L3 0) 0))))) (M.call 66 [sl 57 (D.items (D.cell (vb L3 4) 0)),D.sl false 57 (List.take (Int.toNat (D.int (D.cell (vb L3 0) 2))) (D.items (D.cell (vb L3 0) 0))) Tok.non,D.fn (Fn.func 67) [] []] [] fun d4 o4=>M.br (!D.bool d4) (M.pure (Rs.ret (D.tup [D.agg [D.sl true 57 [] Tok.nil,ik (0:Int),ik (0:Int)],D.agg [D.sl true 57 [] Tok.nil,D.sl true 164 [] Tok.nil,ik (0:Int),bk false],ik (50:Int)]))) (M.br (Int.fdiv (D.int (vd L3 4)) ((2:Int) ^ 32) != (0:Int)) (M.pure (Rs.ret (D.tup [D.agg [D.sl true 57 [] Tok.nil,ik (0:Int),ik (0:Int)],D.agg [D.sl true 57 [] Tok.nil,D.sl true 164 [] Tok.nil,ik (0:Int),bk false],ik (50:Int)]))) (M.br (D.int (D.cell (vb L3 0) 2) == nI (List.length (D.items (D.cell (vb L3 0) 0)))) (M.pure (Rs.ret (D.tup [D.agg [sl 57 (D.items (D.cell (vb L3 0) 0)),iv (D.int (D.cell (vb L3 0) 1)),iv (D.int (D.cell (vb L3 0) 2))],D.agg [sl 57 (D.items (D.cell (vb L3 1) 0)),sl 164 (D.items (D.cell (vb L3 1) 1)),iv (D.int (D.cell (vb L3 1) 2)),bv (D.bool (D.cell (vb L3 1) 3))],ik (0:Int)]))) (M.need (decide ((0:Int)≤(0:Int)∧(0:Int)≤D.int (D.cell (vb L3 0) 2)∧D.int (D.cell (vb L3 0) 2)≤nI (List.length (D.items (D.cell (vb L3 0) 0))))) (M.call 61 [D.sl false 57 (List.take (Int.toNat (D.int (D.cell (vb L3 0) 2))) (D.items (D.cell (vb L3 0) 0))) Tok.non] [] fun d5 o5=>M.need (decide ((0:Int)≤D.int (D.cell (vb L3 0) 2)∧D.int (D.cell (vb L3 0) 2)≤nI (List.length (D.items (D.cell (vb L3 0) 0)))∧nI (List.length (D.items (D.cell (vb L3 0) 0)))≤nI (List.length (D.items (D.cell (vb L3 0) 0))))) (M.loop (37,1) (ls [D.p 0 0 0,D.p 1 0 0,D.p 2 0 0,D.p 3 0 0,D.v (Value.int IntKind.u64 (D.int (vd L3 4))),iv (D.int d5),D.sl false 57 (List.drop (Int.toNat (D.int (D.cell (vb L3 0) 2))) (D.items (D.cell (vb L3 0) 0))) Tok.non,iv (nI (List.length (List.drop (Int.toNat (D.int (D.cell (vb L3 0) 2))) (D.items (D.cell (vb L3 0) 0))))),iv (0:Int)] [Blk.arr true 98 1 [D.agg [sl 57 (D.items (D.cell (vb L3 0) 0)),iv (D.int (D.cell (vb L3 0) 1)),iv (D.int (D.cell (vb L3 0) 2))]],Blk.arr true 39 1 [D.agg [sl 57 (D.items (D.cell (vb L3 1) 0)),sl 164 (D.items (D.cell (vb L3 1) 1)),iv (D.int (D.cell (vb L3 1) 2)),bv (D.bool (D.cell (vb L3 1) 3))]],Blk.arr true 98 1 [D.agg [sl 57 (D.items (D.cell (vb L3 2) 0)),iv (D.int (D.cell (vb L3 2) 1)),iv (D.int (D.cell (vb L3 2) 2))]],Blk.arr true 39 1 [D.agg [sl 57 (D.items (D.cell (vb L3 3) 0)),sl 164 (D.items (D.cell (vb L3 3) 1)),iv (D.int (D.cell (vb L3 3) 2)),bv (D.bool (D.cell (vb L3 3) 3))]]]) (fun L6=>M.call 70 [D.agg [sl 57 (D.items (D.cell (vb L6 1) 0)),sl 164 (D.items (D.cell (vb L6 1) 1)),iv (D.int (D.cell (vb L6 1) 2)),bv (D.bool (D.cell (vb L6 1) 3))]] [] fun d7 o7=>M.br (D.int (List.getD (D.parts d7) 1 D.any) != (0:Int)) (M.pure (Rs.ret (D.tup [D.agg [D.sl true 57 [] Tok.nil,ik (0:Int),ik (0:Int)],D.agg [D.sl false 57 (D.items (D.cell (List.getD (D.parts d7) 0 D.any) 0)) Tok.non,D.sl false 164 (D.items (D.cell (List.getD (D.parts d7) 0 D.any) 1)) Tok.non,iv (D.int (D.cell (List.getD (D.parts d7) 0 D.any) 2)),bv (D.bool (D.cell (List.getD (D.parts d7) 0 D.any) 3))],iv (D.int (List.getD (D.parts d7) 1 D.any))]))) (M.pure (Rs.ret (D.tup [D.agg [sl 57 (D.items (D.cell (vb L6 0) 0)),iv (D.int (D.cell (vb L6 0) 1)),iv (nI (List.length (D.items (D.cell (vb L6 0) 0))))],D.agg [D.sl false 57 (D.items (D.cell (List.getD (D.parts d7) 0 D.any) 0)) Tok.non,D.sl false 164 (D.items (D.cell (List.getD (D.parts d7) 0 D.any) 1)) Tok.non,iv (D.int (D.cell (List.getD (D.parts d7) 0 D.any) 2)),bv (D.bool (D.cell (List.getD (D.parts d7) 0 D.any) 3))],ik (0:Int)])))) (fun L6=>M.bad 154) fun L6=>M.bad 154))))))) (fun L3=>M.bad 154) fun L3=>M.bad 154))))):=by kernel_rfl
theorem rd_js1(j x o:Jo)(d y:Di)(l:List D)(g n i:Int):eJs (37,0) ⟨sJs g++[.p 4 0 0,sl 57 l,iv n,iv i],bJs j d x y++[.arr true 98 1 [dJo o]],[]⟩=(M.br (decide (i<n)) (M.get l i fun d0=>M.need (decide ((0:Int)≤(0:Int)∧(0:Int)≤(4:Int)∧(4:Int)≤nI (List.length (D.items d0)))) (M.call 65 [sl 5 (List.take 4 (D.items d0))] [] fun d1 o1=>M.need (decide ((0:Int)≤(124:Int)∧(124:Int)≤nI (List.length (D.items d0))∧nI (List.length (D.items d0))≤nI (List.length (D.items d0)))) (M.call 65 [sl 5 (List.drop 124 (D.items d0))] [] fun d2 o2=>M.pure (none,(ls [D.p 0 0 0,D.p 1 0 0,D.p 2 0 0,D.p 3 0 0,D.v (Value.int IntKind.u64 (if(if g<IntKind.wrap IntKind.u64 (D.int d1+(1:Int))then IntKind.wrap IntKind.u64 (D.int d1+(1:Int))else g)<IntKind.wrap IntKind.u64 (D.int d2+(1:Int))then IntKind.wrap IntKind.u64 (D.int d2+(1:Int))else if g<IntKind.wrap IntKind.u64 (D.int d1+(1:Int))then IntKind.wrap IntKind.u64 (D.int d1+(1:Int))else g)),D.p 4 0 0,sl 57 l,iv n,iv (w64 (i+(1:Int)))] [Blk.arr true 98 1 [dJo j],Blk.arr true 39 1 [dDi d],Blk.arr true 98 1 [dJo x],Blk.arr true 39 1 [dDi y],Blk.arr true 98 1 [dJo o]]))))) (M.pure (some 0,(ls [D.p 0 0 0,D.p 1 0 0,D.p 2 0 0,D.p 3 0 0,D.v (Value.int IntKind.u64 g),D.p 4 0 0] [Blk.arr true 98 1 [dJo j],Blk.arr true 39 1 [dDi d],Blk.arr true 98 1 [dJo x],Blk.arr true 39 1 [dDi y],Blk.arr true 98 1 [dJo o]])))):=by kernel_rfl
theorem rd_js2(j x:Jo)(d y:Di)(l:List D)(g a n i:Int):eJs (37,1) ⟨sJs g++[iv a,sl 57 l,iv n,iv i],bJs j d x y,[]⟩=(M.br (decide (i<n)) (M.get l i fun d0=>M.call 60 [sl 5 (D.items d0)] [] fun d1 o1=>M.loop (37,2) (ls [D.p 0 0 0,D.p 1 0 0,D.p 2 0 0,D.p 3 0 0,D.v (Value.int IntKind.u64 g),iv a,sl 57 l,iv n,iv i,sl 5 (D.items d0),D.v (Value.int IntKind.u8 (1:Int)),iv (D.int d1)] [Blk.arr true 98 1 [dJo j],Blk.arr true 39 1 [dDi d],Blk.arr true 98 1 [dJo x],Blk.arr true 39 1 [dDi y]]) (fun L2=>M.pure (none,(ls [D.p 0 0 0,D.p 1 0 0,D.p 2 0 0,D.p 3 0 0,D.v (Value.int IntKind.u64 (D.int (vd L2 4))),iv (D.int (vd L2 5)),sl 57 (D.items (vd L2 6)),iv (D.int (vd L2 7)),iv (w64 (D.int (vd L2 8)+(1:Int)))] [Blk.arr true 98 1 [D.agg [sl 57 (D.items (D.cell (vb L2 0) 0)),iv (D.int (D.cell (vb L2 0) 1)),iv (D.int (D.cell (vb L2 0) 2))]],Blk.arr true 39 1 [D.agg [sl 57 (D.items (D.cell (vb L2 1) 0)),sl 164 (D.items (D.cell (vb L2 1) 1)),iv (D.int (D.cell (vb L2 1) 2)),bv (D.bool (D.cell (vb L2 1) 3))]],Blk.arr true 98 1 [D.agg [sl 57 (D.items (D.cell (vb L2 2) 0)),iv (D.int (D.cell (vb L2 2) 1)),iv (D.int (D.cell (vb L2 2) 2))]],Blk.arr true 39 1 [D.agg [sl 57 (D.items (D.cell (vb L2 3) 0)),sl 164 (D.items (D.cell (vb L2 3) 1)),iv (D.int (D.cell (vb L2 3) 2)),bv (D.bool (D.cell (vb L2 3) 3))]]]))) (fun L2=>M.bad 154) fun L2=>M.bad 154) (M.pure (some 0,(ls [D.p 0 0 0,D.p 1 0 0,D.p 2 0 0,D.p 3 0 0,D.v (Value.int IntKind.u64 g)] [Blk.arr true 98 1 [dJo j],Blk.arr true 39 1 [dDi d],Blk.arr true 98 1 [dJo x],Blk.arr true 39 1 [dDi y]])))):=by kernel_rfl
theorem rd_js3(j x:Jo)(d y:Di)(l b:List D)(g a n i k m:Int):eJs (37,2) ⟨sJs g++[iv a,sl 57 l,iv n,iv i,sl 5 b,u8 k,iv m],bJs j d x y,[]⟩=(M.br (decide (m>(0:Int))) (M.br (m == (1:Int)) (M.need (decide ((0:Int)≤(0:Int)∧((0:Int)≤if(112:Int)<nI (List.length b)then(112:Int)else nI (List.length b))∧(if(112:Int)<nI (List.length b)then(112:Int)else nI (List.length b))≤nI (List.length b))) (M.call 69 [D.v (Value.int IntKind.u64 g),iv a,D.v (Value.int IntKind.u8 (IntKind.wrap IntKind.u8 (nI (BitVec.toNat (BitVec.ofInt 8 k|||BitVec.ofInt 8 (2:Int)))))),D.sl false 5 (List.take (Int.toNat (if(112:Int)<nI (List.length b)then(112:Int)else nI (List.length b))) b) Tok.non] [] fun d0 o0=>M.call 68 [dDi d,iv a,sl 5 (D.items d0)] [] fun d1 o1=>M.br (D.int (List.getD (D.parts d1) 1 D.any) != (0:Int)) (M.bad 151) (M.need (decide (((0:Int)≤if(112:Int)<nI (List.length b)then(112:Int)else nI (List.length b))∧(if(112:Int)<nI (List.length b)then(112:Int)else nI (List.length b))≤nI (List.length b)∧nI (List.length b)≤nI (List.length b))) (M.pure (none,(ls [D.p 0 0 0,D.p 1 0 0,D.p 2 0 0,D.p 3 0 0,D.v (Value.int IntKind.u64 g),iv (w64 (a+(1:Int))),sl 57 l,iv n,iv i,D.sl false 5 (List.drop (Int.toNat (if(112:Int)<nI (List.length b)then(112:Int)else nI (List.length b))) b) Tok.non,D.v (Value.int IntKind.u8 (0:Int)),iv (w64 (m-(1:Int)))] [Blk.arr true 98 1 [dJo j],Blk.arr true 39 1 [D.agg [D.sl false 57 (D.items (D.cell (List.getD (D.parts d1) 0 D.any) 0)) Tok.non,D.sl false 164 (D.items (D.cell (List.getD (D.parts d1) 0 D.any) 1)) Tok.non,iv (D.int (D.cell (List.getD (D.parts d1) 0 D.any) 2)),bv (D.bool (D.cell (List.getD (D.parts d1) 0 D.any) 3))]],Blk.arr true 98 1 [dJo x],Blk.arr true 39 1 [dDi y]])))))) (M.need (decide ((0:Int)≤(0:Int)∧((0:Int)≤if(112:Int)<nI (List.length b)then(112:Int)else nI (List.length b))∧(if(112:Int)<nI (List.length b)then(112:Int)else nI (List.length b))≤nI (List.length b))) (M.call 69 [D.v (Value.int IntKind.u64 g),iv a,D.v (Value.int IntKind.u8 k),D.sl false 5 (List.take (Int.toNat (if(112:Int)<nI (List.length b)then(112:Int)else nI (List.length b))) b) Tok.non] [] fun d0 o0=>M.call 68 [dDi d,iv a,sl 5 (D.items d0)] [] fun d1 o1=>M.br (D.int (List.getD (D.parts d1) 1 D.any) != (0:Int)) (M.bad 151) (M.need (decide (((0:Int)≤if(112:Int)<nI (List.length b)then(112:Int)else nI (List.length b))∧(if(112:Int)<nI (List.length b)then(112:Int)else nI (List.length b))≤nI (List.length b)∧nI (List.length b)≤nI (List.length b))) (M.pure (none,(ls [D.p 0 0 0,D.p 1 0 0,D.p 2 0 0,D.p 3 0 0,D.v (Value.int IntKind.u64 g),iv (w64 (a+(1:Int))),sl 57 l,iv n,iv i,D.sl false 5 (List.drop (Int.toNat (if(112:Int)<nI (List.length b)then(112:Int)else nI (List.length b))) b) Tok.non,D.v (Value.int IntKind.u8 (0:Int)),iv (w64 (m-(1:Int)))] [Blk.arr true 98 1 [dJo j],Blk.arr true 39 1 [D.agg [D.sl false 57 (D.items (D.cell (List.getD (D.parts d1) 0 D.any) 0)) Tok.non,D.sl false 164 (D.items (D.cell (List.getD (D.parts d1) 0 D.any) 1)) Tok.non,iv (D.int (D.cell (List.getD (D.parts d1) 0 D.any) 2)),bv (D.bool (D.cell (List.getD (D.parts d1) 0 D.any) 3))]],Blk.arr true 98 1 [dJo x],Blk.arr true 39 1 [dDi y]]))))))) (M.pure (some 0,(ls [D.p 0 0 0,D.p 1 0 0,D.p 2 0 0,D.p 3 0 0,D.v (Value.int IntKind.u64 g),iv a,sl 57 l,iv n,iv i] [Blk.arr true 98 1 [dJo j],Blk.arr true 39 1 [dDi d],Blk.arr true 98 1 [dJo x],Blk.arr true 39 1 [dDi y]])))):=by kernel_rfl
theorem ef_ok(l:List (List D))(hl:∀ b∈l,By b)(hs:l.length<1000000)(h:Heap):CallSd PP 66 [sl 57 (l.map dSe),sl 57 (l.map dSe),.fn (.func 67) [] []] h (.ret (bv true)) h:=by
 refine con_of (E:=eEf) (Γ:=consΓ [conEq]) (C:=cEf) (l:=[66]) (.one kB) (show CallOk PP eEf (consΓ [conEq]) (cons PP rwEf) from cons_ok rfl) (named_loop (id0:=(66,0)) (by kernel_rfl) (by kernel_rfl) (by kernel_rfl) (fun s=>by kernel_rfl) (fun L=>rfl) (NamedT.nil (P:=PP))) rfl rfl rfl (to_wp ?_) h
 rw [t_ef,show nI (l.map dSe).length=(l.length:Int) by rw [List.length_map]]
 have hlp:∃ j L,Lp eEf (consΓ [conEq]) (66,0) ⟨[sl 57 (l.map dSe),.fn (.func 67) [] [],sl 57 (l.map dSe),iv l.length,iv (((0:Nat)):Int)],[],[]⟩ j L∧j=0∧L=⟨[],[],[]⟩:=by
  refine lp_up (σ:=Unit) (fun i _=>⟨[sl 57 (l.map dSe),.fn (.func 67) [] [],sl 57 (l.map dSe),iv l.length,iv ((i:Nat):Int)],[],[]⟩) l.length (fun _ _=>True) _ (fun i _ hi _=>?_) (fun _ _=>?_) (s:=()) trivial
  ·rw [rd_ef]
   have hb:=hl _ (List.getElem_mem hi)
   have hx:=List.getElem?_eq_getElem hi
   generalize l[i]'hi=b at *
   have hg:(l.map dSe)[((i:Nat):Int).toNat]?=some (dSe b):=by
    rw [Int.toNat_natCast,List.getElem?_map,hx];rfl
   refine⟨fun _=>⟨by omega,_,hg,by omega,_,hg,_,[],⟨conEq,rfl,_,⟨b,b,hb,hb,rfl,rfl⟩,rfl⟩,fun q=>?_,fun _=>.inl ⟨(),?_,trivial⟩⟩,fun h=>absurd (of_decide_eq_false h) (by omega)⟩
   ·have e:eqLs b b=true:=by
     classical
     unfold eqLs
     exact decide_eq_true rfl
    have q:(!eqLs b b)=true:=q
    rw [e]at q;cases q
   rw [w64_id (by omega) (by omega)];rfl
  rw [rd_ef]
  exact⟨fun h=>absurd (of_decide_eq_true h) (by omega),fun _=>⟨0,_,rfl,rfl,rfl⟩⟩
 obtain⟨_,_,g1,rfl,rfl⟩:=hlp
 exact⟨fun q=>by simp at q,fun _=>.inl ⟨_,g1,_,_,rfl,rfl,rfl⟩⟩
def conEf:Con PP:=⟨66,[.one (.sl 57),.one (.sl 57),.one .o],.one kB,fun args d=>∃ l:List (List D),(∀ b∈l,By b)∧l.length<1000000∧args=[sl 57 (l.map dSe),sl 57 (l.map dSe),.fn (.func 67) [] []]∧d=bv true,fun args d ⟨l,hl,hs,ha,hd⟩ h=>by subst ha;subst hd;exact ef_ok l hl hs h⟩
def SG(s:List D)(a b:Nat):Prop:=s.length=128∧s.take 4=put4 a∧s.drop 124=put4 b
def genN(a b:Nat→Nat):Nat→Nat
 | 0=>1
 | i+1=>max (max (genN a b i) (a i+1)) (b i+1)
theorem genN_le{a b:Nat→Nat}{K:Nat}:∀ n,(∀ i,i<n→a i≤K∧b i≤K)→genN a b n≤K+1
 | 0,_=>by unfold genN;omega
 | n+1,h=>by
  have:=genN_le n fun i hi=>h i (by omega)
  have:=h n (by omega)
  unfold genN;omega
theorem genN_gt{a b:Nat→Nat}:∀ n i,i<n→a i<genN a b n∧b i<genN a b n
 | 0,_,h=>by omega
 | n+1,i,h=>by
  unfold genN
  by_cases hi:i=n
  ·subst hi;omega
  ·have:=genN_gt (a:=a) (b:=b) n i (by omega)
   omega
theorem genN_pos{a b:Nat→Nat}:∀ n,0<genN a b n
 | 0=>by unfold genN;omega
 | n+1=>by have:=genN_pos (a:=a) (b:=b) n;unfold genN;omega
def pend(g:Nat):Nat→List (List D)→List Wr
 | _,[]=>[]
 | k,b::r=>⟨(k:Int),encS g k 3 b⟩::pend g (k+1) r
theorem pend_len(g:Nat):∀ (l:List (List D))(k:Nat),(pend g k l).length=l.length
 | [],_=>rfl
 | b::l,k=>by rw [pend,List.length_cons,List.length_cons,pend_len g l]
theorem pend_app(g:Nat):∀ (l:List (List D))(k:Nat)(b:List D),pend g k (l++[b])=pend g k l++[⟨((k+l.length:Nat):Int),encS g ((k+l.length:Nat):Int) 3 b⟩]
 | [],k,b=>rfl
 | c::l,k,b=>by
  rw [List.cons_append,pend,pend,pend_app g l (k+1) b,List.cons_append,List.length_cons,show k+1+l.length=k+(l.length+1) by omega]
theorem pend_mem{g:Nat}{w:Wr}:∀ {l:List (List D)}{k:Nat},w∈pend g k l→∃ (i:Nat)(b:List D),i<l.length∧b∈l∧w=⟨((k+i:Nat):Int),encS g ((k+i:Nat):Int) 3 b⟩
 | [],_,h=>nomatch h
 | c::l,k,h=>by
  rcases List.mem_cons.1 h with rfl|h
  ·exact⟨0,c,by simp,List.mem_cons_self ..,rfl⟩
  obtain⟨i,b,h1,h2,h3⟩:=pend_mem h
  exact⟨i+1,b,by simp;omega,List.mem_cons_of_mem _ h2,by rw [h3,show k+1+i=k+(i+1) by omega]⟩
abbrev gJs:List (Con PP):=[conDk,conJc,conOp,conGet,conEf,conUs,conSec,conEs,conWt,conSyD]
theorem js1_lp(j x o:Jo)(d y:Di)(a b:Nat→Nat)(K:Nat)(hK:K<4294967290)(hS:∀ (i:Nat) s,d.se[i]?=some s→SG s (a i) (b i)∧a i≤K∧b i≤K)(hn:d.se.length<100000) :
 Lp eJs (consΓ gJs) (37,0) ⟨sJs 1++[.p 4 0 0,sl 57 (d.se.map dSe),iv d.se.length,iv 0],bJs j d x y++[.arr true 98 1 [dJo o]],[]⟩ 0 ⟨sJs (genN a b d.se.length)++[.p 4 0 0],bJs j d x y++[.arr true 98 1 [dJo o]],[]⟩:=by
 have hlp:∃ j1 L,Lp eJs (consΓ gJs) (37,0) ⟨sJs (genN a b 0)++[.p 4 0 0,sl 57 (d.se.map dSe),iv d.se.length,iv (((0:Nat)):Int)],bJs j d x y++[.arr true 98 1 [dJo o]],[]⟩ j1 L∧j1=0∧L=⟨sJs (genN a b d.se.length)++[.p 4 0 0],bJs j d x y++[.arr true 98 1 [dJo o]],[]⟩:=by
  refine lp_up (σ:=Unit) (fun i _=>⟨sJs (genN a b i)++[.p 4 0 0,sl 57 (d.se.map dSe),iv d.se.length,iv ((i:Nat):Int)],bJs j d x y++[.arr true 98 1 [dJo o]],[]⟩) d.se.length (fun _ _=>True) _ (fun i _ hi _=>?_) (fun _ _=>?_) (s:=()) trivial
  ·rw [rd_js1]
   have hx:=List.getElem?_eq_getElem hi
   generalize d.se[i]'hi=s at *
   obtain⟨⟨s1,s2,s3⟩,ha,hb⟩:=hS i s hx
   have hg:(d.se.map dSe)[((i:Nat):Int).toNat]?=some (dSe s):=by
    rw [Int.toNat_natCast,List.getElem?_map,hx];rfl
   have hgl:genN a b i≤K+1:=genN_le i fun k hk=>by
    have:=hS k _ (List.getElem?_eq_getElem (show k<d.se.length by omega))
    exact this.2
   refine⟨fun _=>⟨by omega,_,hg,?_,_,[],⟨conGet,rfl,_,⟨a i,by omega,congrArg (fun l=>[sl 5 l]) s2,rfl⟩,rfl⟩,?_,_,[],⟨conGet,rfl,_,⟨b i,by omega,congrArg (fun l=>[sl 5 l]) s3,rfl⟩,rfl⟩,.inl ⟨(),?_,trivial⟩⟩,fun h=>absurd (of_decide_eq_false h) (by omega)⟩
   ·exact decide_eq_true (show(0:Int)≤0∧(0:Int)≤4∧(4:Int)≤(s.length:Int) by omega)
   ·exact decide_eq_true (show(0:Int)≤124∧(124:Int)≤(s.length:Int)∧(s.length:Int)≤(s.length:Int) by omega)
   have e1:IntKind.wrap .u64 (((a i:Nat):Int)+1)=((a i+1:Nat):Int):=(congrArg _ (by omega)).trans (w64u (n:=a i+1) (by omega))
   have e2:IntKind.wrap .u64 (((b i:Nat):Int)+1)=((b i+1:Nat):Int):=(congrArg _ (by omega)).trans (w64u (n:=b i+1) (by omega))
   have em:∀ p q r:Nat,(if(if(p:Int)<(q:Int)then(q:Int)else(p:Int))<(r:Int)then(r:Int)else if(p:Int)<(q:Int)then(q:Int)else(p:Int))=((max (max p q) r:Nat):Int):=fun p q r=>by
    split<;>split at * <;> omega
   show(none,LSt.mk [_,_,_,_,D.v (.int .u64 (if(if((genN a b i:Nat):Int)<IntKind.wrap .u64 (((a i:Nat):Int)+1)then IntKind.wrap .u64 (((a i:Nat):Int)+1)else((genN a b i:Nat):Int))<IntKind.wrap .u64 (((b i:Nat):Int)+1)then IntKind.wrap .u64 (((b i:Nat):Int)+1)else if((genN a b i:Nat):Int)<IntKind.wrap .u64 (((a i:Nat):Int)+1)then IntKind.wrap .u64 (((a i:Nat):Int)+1)else((genN a b i:Nat):Int))),_,_,_,iv (w64 (((i:Nat):Int)+1))] _ _)=_
   rw [e1,e2,em,w64_id (by omega) (by omega)]
   rfl
  rw [rd_js1]
  exact⟨fun h=>absurd (of_decide_eq_true h) (by omega),fun _=>⟨0,_,rfl,rfl,rfl⟩⟩
 obtain⟨_,_,g1,rfl,rfl⟩:=hlp
 exact g1
theorem or12:IntKind.wrap .u8 (nI (BitVec.toNat (BitVec.ofInt 8 (1:Int)|||BitVec.ofInt 8 (2:Int))))=3:=by decide
theorem js3_lp(j x:Jo)(d y:Di)(l b:List D)(g k:Nat)(n i:Int)(hd:DOk d)(hv:VvD d)(hs:d.stop=false)(hk:k<d.se.length)(hb:By b)(hbl:b.length≤112)(hp:d.pe.length<4096) :
 Lp eJs (consΓ gJs) (37,2) ⟨sJs g++[iv k,sl 57 l,iv n,iv i,sl 5 b,u8 1,iv 1],bJs j d x y,[]⟩ 0 ⟨sJs g++[iv ((k+1:Nat):Int),sl 57 l,iv n,iv i],bJs j { d with pe:=d.pe++[⟨k,encS g k 3 b⟩] } x y,[]⟩:=by
 have hlen:=encS_len (g:Int) (k:Int) 3 b hbl
 have n2:=hd.n2
 have em:(if(112:Int)<nI (List.length b)then(112:Int)else nI (List.length b))=(b.length:Int):=if_neg (by simp only [nI];omega)
 have h1:To eJs (consΓ gJs) (eJs (37,2) ⟨sJs g++[iv k,sl 57 l,iv n,iv i,sl 5 b,u8 1,iv 1],bJs j d x y,[]⟩) (fun r=>r=(none,⟨sJs g++[iv ((k+1:Nat):Int),sl 57 l,iv n,iv i,sl 5 [],u8 0,iv 0],bJs j { d with pe:=d.pe++[⟨k,encS g k 3 b⟩] } x y,[]⟩)):=by
  refine to_wp ?_
  rw [rd_js3,em,or12,Int.toNat_natCast,List.take_length,List.drop_length]
  refine⟨fun _=>⟨fun _=>⟨decide_eq_true (by simp only [nI];omega),_,[],⟨conEs,rfl,_,⟨g,k,3,b,hbl,by_vv hb,rfl,rfl⟩,rfl⟩,_,[],⟨conWt,rfl,_,⟨d,k,encS g k 3 b,hd,hv,hs,by omega,by omega,hlen,by_vv (by_enc g k hb),hp,rfl,rfl⟩,rfl⟩,(fun q=>nomatch q),fun _=>⟨decide_eq_true (by simp only [nI];omega),?_⟩⟩,fun q=>nomatch q⟩,fun q=>absurd (of_decide_eq_false q) (by decide)⟩
  rw [w64_id (by omega) (by omega)]
  rfl
 have h2:To eJs (consΓ gJs) (eJs (37,2) ⟨sJs g++[iv ((k+1:Nat):Int),sl 57 l,iv n,iv i,sl 5 [],u8 0,iv 0],bJs j { d with pe:=d.pe++[⟨k,encS g k 3 b⟩] } x y,[]⟩) (fun r=>r=(some 0,⟨sJs g++[iv ((k+1:Nat):Int),sl 57 l,iv n,iv i],bJs j { d with pe:=d.pe++[⟨k,encS g k 3 b⟩] } x y,[]⟩)):=by
  refine to_wp ?_
  rw [rd_js3]
  exact⟨fun q=>absurd (of_decide_eq_true q) (by decide),fun _=>rfl⟩
 obtain⟨_,g1,rfl⟩:=h1
 obtain⟨_,g2,rfl⟩:=h2
 exact .next g1 (.done g2)
def wD(d:Di)(g k:Nat)(l:List (List D)):Di:={ d with pe:=pend g k l }
theorem wD_ok{d:Di}{g k:Nat}{l:List (List D)}(hd:DOk d)(hk:k+l.length≤d.se.length)(hb:∀ b∈l,By b∧b.length≤112):DOk (wD d g k l):=by
 refine⟨hd.n1,hd.n2,?_,hd.l1,hd.l2,hd.s,fun w hw=>?_⟩
 ·show(pend g k l).length≤4096
  have:=hd.n2
  rw [pend_len];omega
 obtain⟨i,b,h1,h2,rfl⟩:=pend_mem hw
 refine⟨by show(0:Int)≤((k+i:Nat):Int);omega,?_,encS_len _ _ _ _ (hb b h2).2⟩
 show((k+i:Nat):Int)<(d.se.length:Int)
 omega
theorem wD_vv{d:Di}{g k:Nat}{l:List (List D)}(hv:VvD d)(hb:∀ b∈l,By b∧b.length≤112):VvD (wD d g k l):=by
 refine⟨hv.s,fun w hw=>?_⟩
 obtain⟨i,b,h1,h2,rfl⟩:=pend_mem hw
 exact by_vv (by_enc _ _ (hb b h2).1)
theorem wD_nil{d:Di}{g k:Nat}(hp:d.pe=[]):wD d g k []=d:=by
 cases d
 simp only at hp
 subst hp
 rfl
theorem js2_lp(j x:Jo)(d y:Di)(l:List (List D))(g k:Nat)(hd:DOk d)(hv:VvD d)(hs:d.stop=false)(hp:d.pe=[])(hk:k+l.length≤d.se.length)(hb:∀ b∈l,By b∧b.length≤112) :
 Lp eJs (consΓ gJs) (37,1) ⟨sJs g++[iv k,sl 57 (l.map dSe),iv l.length,iv 0],bJs j d x y,[]⟩ 0 ⟨sJs g,bJs j (wD d g k l) x y,[]⟩:=by
 have n2:=hd.n2
 have hlp:∃ j1 L,Lp eJs (consΓ gJs) (37,1) ⟨sJs g++[iv ((k+0:Nat):Int),sl 57 (l.map dSe),iv l.length,iv (((0:Nat)):Int)],bJs j (wD d g k (l.take 0)) x y,[]⟩ j1 L∧j1=0∧L=⟨sJs g,bJs j (wD d g k l) x y,[]⟩:=by
  refine lp_up (σ:=Unit) (fun i _=>⟨sJs g++[iv ((k+i:Nat):Int),sl 57 (l.map dSe),iv l.length,iv ((i:Nat):Int)],bJs j (wD d g k (l.take i)) x y,[]⟩) l.length (fun _ _=>True) _ (fun i _ hi _=>?_) (fun _ _=>?_) (s:=()) trivial
  ·rw [rd_js2]
   have hx:=List.getElem?_eq_getElem hi
   have ht:l.take (i+1)=l.take i++[l[i]'hi]:=List.take_succ_eq_append_getElem hi
   generalize l[i]'hi=b at *
   have hbm:=hb b (List.mem_of_getElem? hx)
   have hg:(l.map dSe)[((i:Nat):Int).toNat]?=some (dSe b):=by
    rw [Int.toNat_natCast,List.getElem?_map,hx];rfl
   have hbt:∀ b∈l.take i,By b∧b.length≤112:=fun b hb'=>hb b (List.mem_of_mem_take hb')
   have h3:=js3_lp j x (wD d g k (l.take i)) y (l.map dSe) b g (k+i) l.length i (wD_ok hd (by rw [List.length_take];omega) hbt) (wD_vv hv hbt) hs (by show k+i<d.se.length;omega) hbm.1 hbm.2 (by show(pend g k (l.take i)).length<4096;rw [pend_len,List.length_take];omega)
   have e:({ wD d g k (l.take i)with pe:=(wD d g k (l.take i)).pe++[⟨((k+i:Nat):Int),encS g ((k+i:Nat):Int) 3 b⟩] }:Di)=wD d g k (l.take (i+1)):=by
    rw [ht]
    unfold wD
    rw [pend_app,List.length_take,Nat.min_eq_left (by omega)]
   rw [e]at h3
   refine⟨fun _=>⟨by omega,_,hg,_,[],⟨conSec,rfl,_,⟨b,hbm.2,rfl,rfl⟩,rfl⟩,.inl ⟨_,h3,.inl ⟨(),?_,trivial⟩⟩⟩,fun h=>absurd (of_decide_eq_false h) (by omega)⟩
   show(none,LSt.mk [_,_,_,_,_,_,_,_,iv (w64 (((i:Nat):Int)+1))] _ _)=_
   rw [w64_id (by omega) (by omega)]
   rfl
  rw [rd_js2]
  refine⟨fun h=>absurd (of_decide_eq_true h) (by omega),fun _=>⟨0,_,rfl,rfl,?_⟩⟩
  rw [List.take_length]
 obtain⟨_,_,g1,rfl,rfl⟩:=hlp
 rw [List.take_zero,wD_nil hp]at g1
 exact g1
structure JsOk(j:Jo)(d:Di)(gs:List (Nat×List D))(rest:List (List D))(a b:Nat→Nat)(K:Nat):Prop where
 jo:JcOk j
 dj:DJ d gs rest
 vd:VvD d
 many:j.many=d.se.length
 syn:j.syn=gs.length
 re:j.re.take gs.length=gs.map (·.2)
 by_:∀ x∈j.re,By x∧x.length≤112
 sg:∀ (i:Nat) s,d.se[i]?=some s→SG s (a i) (b i)∧a i≤K∧b i≤K
 k:K<4294967290
inductive JsR (j:Jo) (d:Di) (n g:Nat):D→Prop where
 | non (h:j.re.length=n):JsR j d n g (.tup [dJo j,dDi d,iv 0])
 | all (h:n<j.re.length) (hl:d.left = -1∨((j.re.length-n:Nat):Int)≤d.left):JsR j d n g (.tup [dJo { j with syn:=j.re.length },dDi (syD (wD d g n (j.re.drop n))),iv 0])
 | torn (w:Wr) (old:List D) (h:n<j.re.length) (h0:0≤d.left) (hw:(pend g n (j.re.drop n))[d.left.toNat]?=some w) (ho:(prf d.se ((pend g n (j.re.drop n)).take d.left.toNat))[w.pos.toNat]?=some old) (hol:old.length=128):JsR j d n g (.tup [dJo ⟨[],0,0⟩,dDi (tornD (wD d g n (j.re.drop n)) w old),iv 40])
theorem vv_jo{j:Jo}(h:∀ x∈j.re,x.map D.vv=x):(dJo j).vv=dJo j:=by
 unfold dJo
 simp only [D.vv,vvL,vvL_map,vv_ses h]
end Z
namespace Z
theorem vv_syd{d:Di}(hv:VvD d):VvD (syD d):=⟨vv_prf _ _ hv.s hv.w,fun w hw=>nomatch hw⟩
theorem vv_tornD{d:Di}{w:Wr}{old:List D}(hv:VvD d)(hw:w.da.map D.vv=w.da)(ho:old.map D.vv=old):VvD (tornD d w old):=by
 refine⟨fun s hs=>?_,fun w hw=>nomatch hw⟩
 rcases List.mem_or_eq_of_mem_set hs with hs|rfl
 ·exact vv_prf _ _ hv.s (fun w hw=>hv.w w (List.mem_of_mem_take hw)) s hs
 rw [List.map_append,List.map_take,List.map_drop,hw,ho]
theorem named_js:NamedT eJs PP cJs [37] yh0 :=
 named_loops [lcode 37 0,lcode 37 1,lcode 37 2] (by kernel_rfl) (by kernel_rfl) (by kernel_rfl) (fun c hc s id g h L=>by
  rcases List.mem_cons.1 hc with hc|hc
  ·have e:cJs.find 37 yh0.tag (lcode 37 0) s=some ((37,0),gJs1):=by kernel_rfl
   rw [hc]at h ⊢
   have h:=Prod.mk.inj (Option.some.inj (e.symm.trans h))
   rw [← h.1,← h.2];rfl
  rcases List.mem_cons.1 hc with hc|hc
  ·have e:cJs.find 37 yh0.tag (lcode 37 1) s=some ((37,1),gJs2):=by kernel_rfl
   rw [hc]at h ⊢
   have h:=Prod.mk.inj (Option.some.inj (e.symm.trans h))
   rw [← h.1,← h.2];rfl
  have e:cJs.find 37 yh0.tag (lcode 37 2) s=some ((37,2),gJs3):=by kernel_rfl
  rw [List.mem_singleton.1 hc]at h ⊢
  have h:=Prod.mk.inj (Option.some.inj (e.symm.trans h))
  rw [← h.1,← h.2];rfl) (NamedT.nil (P:=PP))
theorem js_ok(j:Jo)(d:Di)(gs:List (Nat×List D))(rest:List (List D))(a b:Nat→Nat)(K:Nat)(hj:JsOk j d gs rest a b K)(r:D)(hr:JsR j d gs.length (genN a b d.se.length) r)(h:Heap):CallSd PP 37 [dJo j,dDi d] h (.ret r) h:=by
 have hst:r.strp=r∧ltB 8 0 r=true:=by cases hr<;>exact⟨rfl,rfl⟩
 refine con_of (E:=eJs) (Γ:=consΓ gJs) (C:=cJs) (l:=[37]) (.tup [kJo,kDi,kI]) (show CallOk PP eJs (consΓ gJs) (cons PP rwJs) from cons_ok rfl) named_js rfl hst.1 hst.2 (to_wp ?_) h
 have n1:=hj.dj.ok.n1
 have n2:=hj.dj.ok.n2
 have hm:=hj.many
 have hsy:=hj.syn
 have hjo:=hj.jo
 have e1:nI (List.length (List.map dSe d.se))=(d.se.length:Int):=by rw [List.length_map]
 have e2:nI (List.length (List.map dSe j.re))=(j.re.length:Int):=by rw [List.length_map]
 have hvj:∀ x∈j.re,x.map D.vv=x:=fun x hx=>by_vv (hj.by_ x hx).1
 have hvg:∀ x∈gs,x.2.map D.vv=x.2:=fun x hx=>by_vv (hj.dj.j.ok x hx).2.2.1
 have hlg:gs.length≤j.re.length:=by have:=hjo.s2;omega
 have hG:=genN_le (a:=a) (b:=b) (K:=K) d.se.length fun i hi=>(hj.sg i _ (List.getElem?_eq_getElem hi)).2
 have hK:=hj.k
 have hsn:Int.toNat j.syn=gs.length:=by omega
 have et:List.take (Int.toNat j.syn) (j.re.map dSe)=(gs.map (·.2)).map dSe:=by
  rw [hsn,← List.map_take,hj.re]
 have ed:List.drop (Int.toNat j.syn) (j.re.map dSe)=(j.re.drop gs.length).map dSe:=by rw [hsn,List.map_drop]
 have hbd:∀ x∈j.re.drop gs.length,By x∧x.length≤112:=fun x hx=>hj.by_ x (List.mem_of_mem_drop hx)
 have hbg:∀ x∈gs.map (·.2),By x∧x.length≤112:=fun x hx=>hj.by_ x (List.mem_of_mem_take (hj.re▸hx))
 have hl1:=js1_lp j ⟨[],0,0⟩ ⟨gs.map (·.2),d.se.length,gs.length⟩ d ⟨[],[],0,false⟩ a b K hK hj.sg (by omega)
 have hr5:=hjo.r1
 have hl2:=js2_lp j ⟨[],0,0⟩ d ⟨[],[],0,false⟩ (j.re.drop gs.length) (genN a b d.se.length) gs.length hj.dj.ok hj.vd hj.dj.st hj.dj.pe (by rw [List.length_drop];omega) hbd
 rw [t_js,e1]
 refine⟨_,[],⟨conJc,rfl,_,⟨j,hjo,rfl,rfl⟩,rfl⟩,(fun q=>nomatch q),fun _=>⟨_,[],⟨conDk,rfl,_,⟨d,hj.dj.ok,rfl,rfl⟩,rfl⟩,(fun q=>nomatch q),fun _=>⟨fun q=>?_,fun _=>⟨_,[],⟨conOp,rfl,_,⟨d,gs,rest,hj.dj,hvg,rfl,rfl⟩,rfl⟩,(fun q=>nomatch q),fun _=>.inl ⟨_,hl1,?_,_,[],⟨conEf,rfl,_,⟨gs.map (·.2),fun x hx=>(hbg x hx).1,by rw [List.length_map];omega,?_,rfl⟩,rfl⟩,(fun q=>nomatch q),fun _=>⟨fun q=>?_,fun _=>⟨fun q=>?_,fun q=>⟨?_,iv gs.length,[],⟨conUs,rfl,_,⟨gs.map (·.2),fun x hx=>(hbg x hx).2,by rw [List.length_map];omega,?_,by rw [List.length_map]⟩,rfl⟩,?_,.inl ⟨⟨sJs (genN a b d.se.length),bJs j (wD d (genN a b d.se.length) gs.length (j.re.drop gs.length)) ⟨[],0,0⟩ ⟨[],[],0,false⟩,[]⟩,?_,?_⟩⟩⟩⟩⟩⟩⟩⟩⟩
 ·have q:(j.many != (d.se.length:Int))=true:=q
  rw [hm]at q;simp at q
 ·exact decide_eq_true (show(0:Int)≤0∧(0:Int)≤j.syn∧j.syn≤nI (List.length (j.re.map dSe)) by rw [e2];omega)
 ·show [sl 57 ((gs.map (·.2)).map dSe),D.sl false 57 (List.take (Int.toNat j.syn) (j.re.map dSe)) .non,D.fn (Fn.func 67) [] []]=_
  rw [et]
 ·have q:(Int.fdiv ((genN a b d.se.length:Nat):Int) ((2:Int) ^ 32) != (0:Int))=true:=q
  rw [Int.fdiv_eq_ediv_of_nonneg _ (by decide),show((genN a b d.se.length:Nat):Int) / (2:Int) ^ 32=0 by omega]at q
  cases q
 ·have q:(j.syn == nI (List.length (j.re.map dSe)))=true:=q
  rw [e2,beq_iff_eq]at q
  cases hr with
  | non hn =>
   refine⟨_,_,rfl,rfl,?_⟩
   show D.tup [(dJo j).vv,(dDi d).vv,iv 0]=_
   rw [vv_jo hvj,vv_di hj.vd]
  | all hn hl=>omega
  | torn w old hn h0 hw ho hol=>omega
 ·exact decide_eq_true (show(0:Int)≤0∧(0:Int)≤j.syn∧j.syn≤nI (List.length (j.re.map dSe)) by rw [e2];omega)
 ·show [D.sl false 57 (List.take (Int.toNat j.syn) (j.re.map dSe)) .non]=_
  rw [et]
 ·exact decide_eq_true (show(0:Int)≤j.syn∧j.syn≤nI (List.length (j.re.map dSe))∧nI (List.length (j.re.map dSe))≤nI (List.length (j.re.map dSe)) by rw [e2];omega)
 ·show Lp eJs _ (37,1) ⟨sJs (genN a b d.se.length)++[iv gs.length,sl 57 (List.drop (Int.toNat j.syn) (j.re.map dSe)),iv (nI (List.length (List.drop (Int.toNat j.syn) (j.re.map dSe)))),iv 0],bJs j d ⟨[],0,0⟩ ⟨[],[],0,false⟩,[]⟩ 0 _
  rw [ed,show nI (List.length ((j.re.drop gs.length).map dSe))=((j.re.drop gs.length).length:Int) by rw [List.length_map]]
  exact hl2
 have q:(j.syn == nI (List.length (j.re.map dSe)))=false:=q
 rw [e2]at q
 have q:¬ j.syn=(j.re.length:Int):=fun h=>by rw [h]at q;simp at q
 have hwo:=wD_ok (g:=genN a b d.se.length) hj.dj.ok (k:=gs.length) (l:=j.re.drop gs.length) (by rw [List.length_drop];omega) hbd
 have hwv:=wD_vv (g:=genN a b d.se.length) hj.vd (k:=gs.length) (l:=j.re.drop gs.length) hbd
 have hpl:(wD d (genN a b d.se.length) gs.length (j.re.drop gs.length)).pe.length=j.re.length-gs.length:=by
  show(pend _ _ _).length=_
  rw [pend_len,List.length_drop]
 cases hr with
 | non hn=>omega
 | all hn hl =>
  refine⟨_,[],⟨conSyD,rfl,_,⟨wD d (genN a b d.se.length) gs.length (j.re.drop gs.length),hwo,hwv,hj.dj.st,rfl,.inl ⟨?_,rfl⟩⟩,rfl⟩,(fun q=>nomatch q),fun _=>⟨_,_,rfl,rfl,?_⟩⟩
  ·rw [hpl];exact hl
  show D.tup [(dJo { j with syn:=nI (List.length (j.re.map dSe)) }).vv,(dDi (syD _)).vv,iv 0]=_
  rw [e2,vv_jo (j:={ j with syn:=j.re.length }) hvj,vv_di (vv_syd hwv)]
 | torn w old hn h0 hw ho hol =>
  refine⟨_,[],⟨conSyD,rfl,_,⟨wD d (genN a b d.se.length) gs.length (j.re.drop gs.length),hwo,hwv,hj.dj.st,rfl,.inr ⟨w,old,h0,hw,ho,hol,rfl⟩⟩,rfl⟩,fun _=>⟨_,_,rfl,rfl,?_⟩,fun q=>nomatch q⟩
  show D.tup [(dJo ⟨[],0,0⟩).vv,(dDi (tornD _ w old)).vv,iv 40]=_
  rw [vv_di (vv_tornD hwv (hwv.w w (List.mem_of_getElem? hw)) (vv_prf _ _ hwv.s (fun w hw=>hwv.w w (List.mem_of_mem_take hw)) old (List.mem_of_getElem? ho)))]
  rfl
def conJs:Con PP:=⟨37,[kJo,kDi],.tup [kJo,kDi,kI],fun args r=>∃ j d gs rest a b K,JsOk j d gs rest a b K∧args=[dJo j,dDi d]∧JsR j d gs.length (genN a b d.se.length) r,fun args r ⟨j,d,gs,rest,a,b,K,hj,ha,hr⟩ h=>by
 have e:etaR (.tup [kJo,kDi,kI]) r=r:=by cases hr<;>rfl
 subst ha
 rw [e]
 exact js_ok j d gs rest a b K hj r hr h⟩
end Z
namespace Z
abbrev zS:List D:=List.replicate 128 (u8 0)
structure DS(S:List (List D))(gs:List (Nat×List D))(K:Nat):Prop where
 ok:∀ x∈gs,GOk x∧x.1≤K
 up:∀ i x,gs[i]?=some x→lastG gs i≤x.1
 len:S.length=64
 gl:gs.length≤64
 at_:∀ (i:Nat) x,gs[i]?=some x→S[i]?=some (encS x.1 i 3 x.2)
 nx:∀ s,S[gs.length]?=some s→s=zS∨∃ x,GOk x∧x.1≤K∧s=tornS x.1 gs.length x.2
 zr:∀ (i:Nat) s,S[i]?=some s→gs.length<i→s=zS
section
variable {S:List (List D)}{gs:List (Nat×List D)}{K:Nat}
theorem DS.secs(h:DS S gs K):S=secs gs (S.drop gs.length):=by
 refine List.ext_getElem? fun i=>?_
 by_cases hi:i<gs.length
 ·have hx:=List.getElem?_eq_getElem hi
  rw [h.at_ i _ hx,List.getElem?_append_left (by rw [encs_len];exact hi),encs_get gs 0 i _ hx,Nat.zero_add]
 rw [List.getElem?_append_right (by rw [encs_len];omega),encs_len,List.getElem?_drop]
 congr 1;omega
theorem DS.jok(h:DS S gs K):JOk gs (S.drop gs.length):=by
 refine⟨fun x hx=>(h.ok x hx).1,h.up,fun s hs=>?_,by rw [List.length_drop,h.len];have:=h.gl;omega⟩
 rw [List.head?_drop]at hs
 rcases h.nx s hs with rfl|⟨x,hx,_,rfl⟩
 ·exact .zero
 exact .torn x hx
theorem torn_len(g n:Int)(b:List D)(hb:b.length≤50):(tornS g n b).length=128:=by
 unfold tornS
 rw [List.length_append,List.length_take,encS_len g n 3 b (by omega),List.length_replicate];rfl
theorem torn_by(g n:Int){b:List D}(hb:By b):By (tornS g n b):=by_app (fun d hd=>by_enc g n hb d (List.mem_of_mem_take hd)) (by_zero _)
theorem enc_sg(g:Nat)(n:Int)(b:List D)(hb:b.length≤112):SG (encS g n 3 b) g g:=by
 refine⟨encS_len _ _ _ _ hb,by rw [encS_cons,← put4_by];rfl,?_⟩
 rw [← put4_by]
 unfold encS
 rw [List.drop_append_of_le_length (by simp [bodyS];omega),List.drop_of_length_le (by simp [bodyS];omega)]
 rfl
theorem zero_sg:SG zS 0 0:=⟨List.length_replicate ..,(by rw [List.take_replicate];rfl),by rw [List.drop_replicate];rfl⟩
theorem torn_sg(g:Nat)(n:Int)(b:List D)(hb:b.length≤50):SG (tornS g n b) g 0:=by
 refine⟨torn_len _ _ _ hb,?_,?_⟩
 ·unfold tornS
  rw [List.take_append_of_le_length (by rw [List.length_take,encS_len _ _ _ _ (by omega)];decide),List.take_take]
  exact(enc_sg g n b (by omega)).2.1
 unfold tornS
 rw [List.drop_append,List.drop_of_length_le (by rw [List.length_take];omega),List.length_take,encS_len _ _ _ _ (by omega),List.drop_replicate]
 rfl
theorem DS.kind(h:DS S gs K){i:Nat}{s:List D}(hs:S[i]?=some s):(∃ x,GOk x∧x.1≤K∧s=encS x.1 i 3 x.2∧gs[i]?=some x)∨s=zS∨∃ x,GOk x∧x.1≤K∧s=tornS x.1 i x.2:=by
 rcases Nat.lt_trichotomy i gs.length with hi|hi|hi
 ·have hx:=List.getElem?_eq_getElem hi
  have:=h.at_ i _ hx
  rw [hs]at this
  have hok:=h.ok _ (List.getElem_mem hi)
  exact .inl ⟨_,hok.1,hok.2,Option.some.inj this,hx⟩
 ·subst hi
  rcases h.nx s hs with rfl|⟨x,h1,h2,rfl⟩
  ·exact .inr (.inl rfl)
  exact .inr (.inr ⟨x,h1,h2,rfl⟩)
 exact .inr (.inl (h.zr i s hs hi))
theorem DS.sg(h:DS S gs K){i:Nat}{s:List D}(hs:S[i]?=some s):∃ a b,SG s a b∧a≤K∧b≤K∧∀ x,gs[i]?=some x→x.1≤a:=by
 rcases h.kind hs with ⟨x,h1,h2,rfl,h3⟩|rfl|⟨x,h1,h2,rfl⟩
 ·exact⟨x.1,x.1,enc_sg _ _ _ (by have:=h1.2.2.2;omega),h2,h2,fun y hy=>by rw [h3]at hy;obtain rfl:=Option.some.inj hy;exact Nat.le_refl _⟩
 ·refine⟨0,0,zero_sg,Nat.zero_le _,Nat.zero_le _,fun y hy=>?_⟩
  have:=h.at_ i y hy
  rw [hs]at this
  have hok:=(h.ok y (List.mem_of_getElem? hy)).1
  have h4:=congrArg (List.take 4) (Option.some.inj this)
  rw [(enc_sg y.1 i y.2 (by have:=hok.2.2.2;omega)).2.1]at h4
  have h5:put4 0=put4 y.1:=h4
  unfold put4 at h5
  simp only [List.cons.injEq,D.v.injEq,Value.int.injEq,true_and,and_true]at h5
  have:=hok.2.1
  omega
 refine⟨x.1,0,torn_sg _ _ _ h1.2.2.2,h2,Nat.zero_le _,fun y hy=>?_⟩
 have hi:i<gs.length:=(List.getElem?_eq_some_iff.1 hy).1
 have:=h.at_ i y hy
 rw [hs]at this
 have hok:=(h.ok y (List.mem_of_getElem? hy)).1
 have h4:=congrArg (List.take 4) (Option.some.inj this)
 rw [(enc_sg y.1 i y.2 (by have:=hok.2.2.2;omega)).2.1,(torn_sg x.1 i x.2 h1.2.2.2).2.1]at h4
 unfold put4 at h4
 simp only [List.cons.injEq,D.v.injEq,Value.int.injEq,true_and,and_true]at h4
 have:=hok.2.1
 have:=h1.2.1
 omega
theorem DS.by_(h:DS S gs K):∀ s∈S,By s∧s.length=128:=fun s hs=>by
 obtain⟨i,hi⟩:=List.mem_iff_getElem?.1 hs
 rcases h.kind hi with ⟨x,h1,h2,rfl,h3⟩|rfl|⟨x,h1,h2,rfl⟩
 ·exact⟨by_enc _ _ h1.2.2.1,encS_len _ _ _ _ (by have:=h1.2.2.2;omega)⟩
 ·exact⟨by_zero _,List.length_replicate ..⟩
 exact⟨torn_by _ _ h1.2.2.1,torn_len _ _ _ h1.2.2.2⟩
theorem pend_get(g:Nat):∀ (l:List (List D))(k i:Nat)(b:List D),l[i]?=some b→(pend g k l)[i]?=some ⟨((k+i:Nat):Int),encS g ((k+i:Nat):Int) 3 b⟩
 | [],_,_,_,h=>by simp at h
 | c::l,k,0,b,h=>by
  obtain rfl:c=b:=by simpa using h
  rfl
 | c::l,k,i+1,b,h=>by
  have:=pend_get g l (k+1) i b (by simpa using h)
  rw [pend,List.getElem?_cons_succ,this,show k+1+i=k+(i+1) by omega]
theorem pend_take(g:Nat):∀ (l:List (List D))(k m:Nat),(pend g k l).take m=pend g k (l.take m)
 | [],_,_=>by simp [pend]
 | _,_,0=>by simp [pend]
 | b::l,k,m+1=>by
  show _::(pend g (k+1) l).take m=_::pend g (k+1) (l.take m)
  rw [pend_take g l (k+1) m]
theorem prf_pend(g:Nat):∀ (l:List (List D))(k:Nat)(S:List (List D)),k+l.length≤S.length→∀ i,(prf S (pend g k l))[i]?=if k≤i∧i<k+l.length then(l[i-k]?).map (encS g i 3)else S[i]?
 | [],k,S,_,i=>by rw [if_neg (by rw [List.length_nil];omega)];rfl
 | b::l,k,S,hk,i=>by
  rw [List.length_cons]at hk
  show(prf (S.set ((k:Int)).toNat (encS g k 3 b)) (pend g (k+1) l))[i]?=_
  rw [prf_pend g l (k+1) _ (by rw [List.length_set];omega),Int.toNat_natCast]
  by_cases h1:k+1≤i∧i<k+1+l.length
  ·rw [if_pos h1,if_pos (by rw [List.length_cons];omega),show i-k=(i-(k+1))+1 by omega,List.getElem?_cons_succ]
  rw [if_neg h1,List.getElem?_set]
  by_cases h2:k=i
  ·subst h2
   rw [if_pos rfl,if_pos (by omega),if_pos (by rw [List.length_cons];omega),Nat.sub_self]
   rfl
  rw [if_neg h2,if_neg (by rw [List.length_cons];omega)]
theorem DS.write(h:DS S gs K)(g:Nat)(l:List (List D))(h0:0<g)(hg:g≤K+1)(hK:K+1<4294967296)(hu:∀ x∈gs,x.1≤g)(hb:∀ b∈l,By b∧b.length≤50)(hl:gs.length+l.length≤64):DS (prf S (pend g gs.length l)) (gs++l.map fun b=>(g,b)) (K+1):=by
 have hget:=prf_pend g l gs.length S (by rw [h.len];exact hl)
 have hlen:(gs++l.map fun b=>(g,b)).length=gs.length+l.length:=by rw [List.length_append,List.length_map]
 refine⟨fun x hx=>?_,fun i x hx=>?_,by rw [prf_len];exact h.len,by rw [hlen];exact hl,fun i x hx=>?_,fun s hs=>?_,fun i s hs hi=>?_⟩
 ·rcases List.mem_append.1 hx with hx|hx
  ·obtain⟨h1,h2⟩:=h.ok x hx;exact⟨h1,by omega⟩
  obtain⟨b,hb1,rfl⟩:=List.mem_map.1 hx
  exact⟨⟨h0,by show g<_;omega,hb b hb1⟩,hg⟩
 ·cases i with
  | zero=>exact Nat.zero_le _
  | succ i =>
   by_cases hi:i+1<gs.length
   ·have e:(gs++l.map fun b=>(g,b))[i]?=gs[i]?:=List.getElem?_append_left (by omega)
    rw [List.getElem?_append_left hi]at hx
    have:=h.up (i+1) x hx
    show(((gs++l.map fun b=>(g,b))[i]?).map (·.1)).getD 0≤x.1
    rw [e]
    exact this
   rw [List.getElem?_append_right (by omega)]at hx
   have hxg:x.1=g:=by
    rw [List.getElem?_map]at hx
    obtain⟨b,_,rfl⟩:=Option.map_eq_some_iff.1 hx
    rfl
   show(((gs++l.map fun b=>(g,b))[i]?).map (·.1)).getD 0≤x.1
   rw [hxg]
   cases hy:(gs++l.map fun b=>(g,b))[i]? with
   | none=>exact Nat.zero_le _
   | some y =>
    show y.1≤g
    rcases List.mem_append.1 (List.mem_of_getElem? hy)with hy|hy
    ·exact hu y hy
    obtain⟨b,_,rfl⟩:=List.mem_map.1 hy
    exact Nat.le_refl _
 ·rw [hget]
  by_cases hi:i<gs.length
  ·rw [if_neg (by omega)]
   rw [List.getElem?_append_left hi]at hx
   exact h.at_ i x hx
  rw [List.getElem?_append_right (by omega),List.getElem?_map]at hx
  obtain⟨b,hb1,rfl⟩:=Option.map_eq_some_iff.1 hx
  have:=(List.getElem?_eq_some_iff.1 hb1).1
  rw [if_pos (by omega),hb1];rfl
 ·rw [hlen]at hs ⊢
  rw [hget,if_neg (by omega)]at hs
  rcases Nat.eq_zero_or_pos l.length with h1|h1
  ·rw [h1,Nat.add_zero]at hs ⊢
   rcases h.nx s hs with h2|⟨x,h2,h3,h4⟩
   ·exact .inl h2
   exact .inr ⟨x,h2,by omega,h4⟩
  exact .inl (h.zr _ s hs (by omega))
 rw [hlen]at hi
 rw [hget,if_neg (by omega)]at hs
 exact h.zr i s hs (by omega)
theorem DS.torn(h:DS S gs K)(g:Nat)(b old:List D)(h0:0<g)(hg:g≤K)(hK:K<4294967296)(hb:By b∧b.length≤50)(ho:S[gs.length]?=some old):DS (S.set gs.length ((encS g gs.length 3 b).take 64++old.drop 64)) gs K:=by
 have hd:old.drop 64=List.replicate 64 (u8 0):=by
  rcases h.nx old ho with rfl|⟨x,h1,_,rfl⟩
  ·rfl
  unfold tornS
  rw [List.drop_append,List.drop_of_length_le (by rw [List.length_take];omega),List.length_take,encS_len _ _ _ _ (by have:=h1.2.2.2;omega)]
  rfl
 rw [hd]
 refine⟨h.ok,h.up,by rw [List.length_set];exact h.len,h.gl,fun i x hx=>?_,fun s hs=>?_,fun i s hs hi=>?_⟩
 ·have hi:=(List.getElem?_eq_some_iff.1 hx).1
  rw [List.getElem?_set_ne (by omega)]
  exact h.at_ i x hx
 ·rw [List.getElem?_set_self (List.getElem?_eq_some_iff.1 ho).1]at hs
  obtain rfl:=Option.some.inj hs
  exact .inr ⟨(g,b),⟨h0,by show g<_;omega,hb⟩,hg,rfl⟩
 rw [List.getElem?_set_ne (by omega)]at hs
 exact h.zr i s hs hi
end
end Z
namespace Z
theorem named_val(base:Caller):NamedT (eDecd base) PP (cNumb base) lVal yh0 :=
 named_loop (id0:=(95,0)) (by kernel_rfl) (by kernel_rfl) (by kernel_rfl) (fun s=>by kernel_rfl) (fun L=>rfl)
  (named_plain (by kernel_rfl) (named_loop (id0:=(115,0)) (by kernel_rfl) (by kernel_rfl) (by kernel_rfl) (fun s=>by kernel_rfl) (fun L=>rfl)
   (named_plain (by kernel_rfl) (named_plain (by kernel_rfl) (named_plain (by kernel_rfl) (NamedT.nil (P:=PP)))))))
theorem sgn{m:Nat}(h:m<8192):w64 (nI (BitVec.toNat (BitVec.ofInt 64 (w64 (Int.fdiv ((2*m:Nat):Int) ((2:Int) ^ 1)))^^^BitVec.ofInt 64 (w64 (-w64 (IntKind.wrap .u64 (nI (BitVec.toNat (BitVec.ofInt 64 ((2*m:Nat):Int)&&&BitVec.ofInt 64 (1:Int))))))))))=(m:Int):=by
 have e1:(BitVec.ofInt 64 ((2*m:Nat):Int)&&&BitVec.ofInt 64 (1:Int)).toNat=0:=by
  rw [show(1:Int)=((1:Nat):Int) from rfl,BitVec.ofInt_natCast,BitVec.ofInt_natCast]
  simp only [BitVec.toNat_and,BitVec.toNat_ofNat]
  rw [show(1:Nat) % 2 ^ 64=2 ^ 1-1 from rfl,Nat.and_two_pow_sub_one_eq_mod]
  omega
 have e2:w64 (-w64 (IntKind.wrap .u64 (nI 0)))=0:=by decide
 have e3:w64 (Int.fdiv ((2*m:Nat):Int) ((2:Int) ^ 1))=(m:Int):=by
  rw [Int.fdiv_eq_ediv_of_nonneg _ (by decide),show(((2*m:Nat):Int) / (2:Int) ^ 1)=(m:Int) by omega]
  exact w64_id (by omega) (by omega)
 rw [e1,e2,e3]
 have e4:(BitVec.ofInt 64 (m:Int)^^^BitVec.ofInt 64 (0:Int)).toNat=m:=by
  rw [BitVec.ofInt_natCast]
  simp
  omega
 rw [e4]
 exact w64_id (by simp only [nI];omega) (by simp only [nI];omega)
abbrev dNum (n:Int):D:=.agg [iv 1,iv n,.v (.string .empty),sl 129 []]
theorem val_ok(n:Int)(h0:0≤n)(h1:n<8192)(B:List D)(hB:B.map D.vv=B):CallSd PP 95 (.p 2 0 0::[iv 1]) (hpOf 89 [2] [.arr true 179 1 [.agg [sl 5 (u8 1::(eU (2*n)++B))]]]) (.ret (dNum n)) (hpOf 89 [2] [.arr true 179 1 [.agg [sl 5 B]]]):=by
 obtain⟨m,rfl⟩:∃ m:Nat,n=m:=⟨n.toNat,by omega⟩
 refine con_ofB (E:=eDecd (cons PP [])) (Γ:=consΓ (P:=PP) []) (C:=cNumb (cons PP [])) (l:=lVal) kRd0 (.one kVa) (cons_ok rfl) (named_val _) (by decide) rfl rfl (to_wp ?_)
 rw [t_val]
 obtain⟨t1,t2,t3⟩:=take_c (x:=u8 1) (B:=eU (2*(m:Int))++B)
 refine⟨(fun q=>by rw [t1]at q;cases q),fun _=>⟨t2,t3,Int.le_refl _,_,rfl,fun _=>.inl ⟨⟨[vu ((2*m:Nat):Int)],[bRd B],[]⟩,?_,?_⟩,fun q=>nomatch q⟩⟩
 ·have:=num_lp (cons PP []) (consΓ (P:=PP) []) (2*m) (by omega) B
  rw [show((2*m:Nat):Int)=2*(m:Int) by omega]at this ⊢
  exact this
 refine⟨_,_,_,_,rfl,rfl,?_,rfl,(show D.agg [D.sl false 5 (vvL B) .non]=_ from(by rw [vvL_map,hB]))⟩
 have:=sgn (m:=m) (by omega)
 show D.agg [iv (w64 (D.int (u8 1))),iv _,_,_]=_
 rw [show D.int (vd ⟨[vu ((2*m:Nat):Int)],[bRd B],[]⟩ 0)=((2*m:Nat):Int) from rfl,this]
 rfl
def conVal:ConB PP:=⟨95,2,89,179,kRd0,[kI],.one kVa,false,fun args c d c'=>∃ n B,0≤n∧n<8192∧B.map D.vv=B∧args=[iv 1]∧c=.agg [sl 5 (u8 1::(eU (2*n)++B))]∧d=dNum n∧c'=.agg [sl 5 B],fun args c d c' ⟨n,B,h0,h1,hB,ha,hc,hd,hc'⟩=>by subst ha;subst hc;subst hd;subst hc';exact val_ok n h0 h1 B hB,by decide,(fun h=>nomatch h)⟩
abbrev gDecd:Cn:=consΓB [conVal] (consΓ (P:=PP) [])
abbrev eN (l:List Int):List D:=l.flatMap fun n=>u8 1::eU (2*n)
theorem vv_eN(l:List Int):(eN l).map D.vv=eN l:=by
 have:=vv_eL l
 unfold eL at this
 injection this with h1 h2
 injection h2 with h3 h4
abbrev stLst (l:List Int) (i:Nat):LSt:=⟨[.p 2 0 0,iv 0,.p 3 0 0,iv l.length,iv ((i:Nat):Int)],[.arr true 129 1 [.agg [iv 0,iv 0,.v (.string .empty),sl 129 []]],b1 33 (iv 0),bRd (eN (l.drop i)),.arr true 129 1 [.agg [iv 3,iv 0,.v (.string .empty),.sl false 129 ((l.take i).map dNum) (.tip 8)]],.tip 129],[]⟩
theorem lst_lp(l:List Int)(hl:l.length<128)(hn:∀ n∈l,0≤n∧n<8192):∃ j L,Lp (eDecd bVal) gDecd (95,0) (stLst l 0) j L∧j=0∧L=⟨[.p 2 0 0,.p 3 0 0],(stLst l l.length).bs,[]⟩:=by
 refine lp_up (σ:=Unit) (fun i _=>stLst l i) l.length (fun _ _=>True) _ (fun i _ hi _=>?_) (fun _ _=>?_) (s:=()) trivial
 ·have h0:=(hn (l[i]'hi) (List.getElem_mem hi)).1
  have h1:=(hn (l[i]'hi) (List.getElem_mem hi)).2
  have hd:l.drop i=l[i]::l.drop (i+1):=List.drop_eq_getElem_cons hi
  rw [rd_lst]
  refine⟨fun _=>⟨dNum l[i],[.agg [sl 5 (eN (l.drop (i+1)))]],.inr ⟨conVal,rfl,[iv 1],.agg [sl 5 (eN (l.drop i))],dNum l[i],.agg [sl 5 (eN (l.drop (i+1)))],rfl,rfl,⟨l[i],eN (l.drop (i+1)),h0,h1,vv_eN _,rfl,?_,rfl,rfl⟩,rfl⟩,?_,.inl ⟨(),?_,trivial⟩⟩,fun h=>absurd (of_decide_eq_false h) (by omega)⟩
  ·unfold eN;rw [hd];rfl
  ·refine decide_eq_true ?_
   rw [List.length_map,List.length_take];omega
  rw [w64_id (by omega) (by omega)]
  unfold stLst
  rw [List.take_succ_eq_append_getElem hi,List.map_append]
  rfl
 rw [rd_lst]
 refine⟨fun h=>absurd (of_decide_eq_true h) (by omega),fun _=>⟨0,_,rfl,rfl,rfl⟩⟩
theorem named_decd:NamedT (eDecd bVal) PP (cNumb bVal) lDecd yh0 :=
 named_plain (by kernel_rfl) (named_plain (by kernel_rfl) (named_val bVal))
abbrev dRec (l:List Int):D:=.agg [iv 3,iv 0,.v (.string .empty),sl 129 (l.map dNum)]
theorem eN_len(l:List Int):2*l.length≤(eN l).length∧(eN l).length≤3*l.length:=by
 induction l with
 | nil=>exact⟨Nat.le_refl _,Nat.le_refl _⟩
 | cons n l ih =>
  have:(eN (n::l)).length=1+(eU (2*n)).length+(eN l).length:=by
   show(u8 1::eU (2*n)++eN l).length=_
   simp;omega
  have h2:(eU (2*n)).length=1∨(eU (2*n)).length=2:=by
   unfold eU;split<;>simp
  simp only [List.length_cons]
  omega
theorem dcd_ok(l:List Int)(hl:l.length<128)(hn:∀ n∈l,0≤n∧n<8192)(h:Heap):CallSd PP 71 [sl 5 (eL l)] h (.ret (.tup [dRec l,iv 0])) h:=by
 refine con_of (E:=eDecd bVal) (Γ:=gDecd) (C:=cNumb bVal) (l:=lDecd) (.tup [kVa,kI]) (show CallOk PP (eDecd bVal) gDecd bVal from consB_ok (m:=[]) (mb:=[⟨95,2,179,kRd0,[kI],.one kVa,false⟩]) (l:=[]) (lb:=[conVal]) rfl rfl) named_decd rfl rfl rfl (to_wp ?_) h
 rw [t_decd]
 obtain⟨t1,t2,t3⟩:=take_c (x:=u8 3) (B:=u8 (l.length:Int)::eN l)
 obtain⟨q1,q2⟩:=eN_len l
 have hw:IntKind.wrap .u64 (nI (eN l).length)=((eN l).length:Int):=wrap_u64 (by simp only [nI];omega) (by simp only [nI];omega)
 refine⟨(fun q=>by rw [show eL l=u8 3::u8 (l.length:Int)::eN l from rfl,t1]at q;cases q),fun _=>⟨t2,t3,Int.le_refl _,_,rfl,(fun q=>nomatch q),fun _=>⟨(fun q=>nomatch q),fun _=>⟨fun _=>.inl ⟨⟨[vu (l.length:Int)],[bRd (eN l)],[]⟩,?_,⟨fun q=>?_,fun _=>.inl ⟨⟨[.p 2 0 0,.p 3 0 0],(stLst l l.length).bs,[]⟩,?_,?_⟩⟩⟩,fun q=>nomatch q⟩⟩⟩⟩
 ·have:=num_lp bVal gDecd l.length (by omega) (eN l)
  rw [eU_f (decide_eq_false (by omega)),wrap_u8 (by omega) (by omega)]at this
  exact this
 ·have q:(!decide ((l.length:Int)≤IntKind.wrap .u64 (nI (eN l).length)))=true:=q
  rw [hw,decide_eq_true (show(l.length:Int)≤((eN l).length:Int) by omega)]at q
  cases q
 ·obtain⟨j,L,g1,rfl,rfl⟩:=lst_lp l hl hn
  show Lp _ _ _ ⟨[.p 2 0 0,iv 0,.p 3 0 0,iv (w64 (l.length:Int)),iv 0],_,[]⟩ 0 _
  rw [w64_id (by omega) (by omega)]
  exact g1
 have e:stLst l l.length=⟨[.p 2 0 0,iv 0,.p 3 0 0,iv l.length,iv ((l.length:Nat):Int)],[.arr true 129 1 [.agg [iv 0,iv 0,.v (.string .empty),sl 129 []]],b1 33 (iv 0),bRd [],.arr true 129 1 [.agg [iv 3,iv 0,.v (.string .empty),.sl false 129 (l.map dNum) (.tip 8)]],.tip 129],[]⟩:=by
  unfold stLst;rw [List.drop_length,List.take_length];rfl
 rw [e]
 refine⟨(fun q=>nomatch q),fun _=>⟨_,_,rfl,rfl,?_⟩⟩
 show D.tup [D.agg [iv 3,iv 0,.v (.string .empty),.sl false 129 (vvL (l.map dNum)) .non],iv 0]=_
 rw [vvL_map,List.map_map]
 rfl
def conDcd:Con PP:=⟨71,[.one (.sl 5)],.tup [kVa,kI],fun args d=>∃ l:List Int,l.length<128∧(∀ n∈l,0≤n∧n<8192)∧args=[sl 5 (eL l)]∧d=.tup [dRec l,iv 0],fun args d ⟨l,hl,hn,ha,hd⟩ h=>by subst ha;subst hd;exact dcd_ok l hl hn h⟩
end Z
namespace Z
def nRea:List (Nat×BK):=[(0,.each 68 1 [.el kEn]),(1,.each 129 1 [.el kVa]),(8,.tip 3)]
def gRea:LCfg:=⟨79,8,9,⟨[(2,.fix (.p 0 0 0)),(6,.xt false [(some 8,.sl 3)]),(23,.el (.one (.sl 129))),(24,sI),(25,sI)],nRea⟩,[(.exit 0,⟨[(2,.fix (.p 0 0 0)),(6,.xt false [(some 8,.sl 3)])],nRea⟩),(.ret,⟨[(2,.fix (.p 0 0 0)),(3,.el kB)],nRea⟩)]⟩
noncomputable def cRea:Cf:=cf [71] [⟨38,0,6,(38,0),gRea⟩] [⟨71,[.one (.sl 5)],.tup [kVa,kI]⟩]
noncomputable def eRea:LId→LSt→M Rd1:=fun id L=>gRea.round PP (kitF PP cRea (callT PP cRea []) yh0 38) (lcode 38 0) L
def gLoa:LCfg:=⟨37,8,8,⟨[(4,.fix (.p 0 0 0)),(12,.el (.one (.sl 57))),(13,sI),(14,sI)],[(0,.each 27 1 [.el kRp])]⟩,[(.exit 0,⟨[(4,.fix (.p 0 0 0))],[(0,.each 27 1 [.el kRp])]⟩),(.ret,⟨[(4,.fix (.p 0 0 0)),(5,.el kI)],[(0,.each 27 1 [.el kRp])]⟩)]⟩
noncomputable def cLoa:Cf:=cf [38,16,6] [⟨20,0,3,(20,0),gLoa⟩] [⟨6,[kRp],.one kI⟩,⟨16,[kRp,kEn],.one kRp⟩,⟨38,[.one (.sl 5)],.tup [kEn,kB]⟩]
noncomputable def eLoa:LId→LSt→M Rd1:=fun id L=>gLoa.round PP (kitF PP cLoa (callT PP cLoa []) yh0 20) (lcode 20 0) L
--D d_load ;;(s:Int) (B:List D) ;;callX [] cLoa [20] 20 [iv s,sl 57 B]
theorem t_rea(l:List Int):callR cRea [38] 38 [sl 5 (eL l)]=(M.call 71 [D.sl false 5 (D.v (Value.int IntKind.u8 (3:Int))::D.v (Value.int IntKind.u8 (nI (List.length l)))::List.flatten (List.map (fun n=>u8 (1:Int)::eU ((2:Int)*n)) l)) Tok.non] [] fun d0 o0=>M.br (D.int (List.getD (D.parts d0) 1 D.any) != (0:Int)) (M.pure (Rs.ret (D.tup [D.agg [bk false,ik (0:Int),ik (0:Int),ik (0:Int),ik (0:Int),ik (0:Int)],bk false]))) (M.br (D.int (D.cell (List.getD (D.parts d0) 0 D.any) 0) != (3:Int)) (M.pure (Rs.ret (D.tup [D.agg [bk false,ik (0:Int),ik (0:Int),ik (0:Int),ik (0:Int),ik (0:Int)],bk false]))) (M.loop (38,0) (ls [D.p 0 0 0,D.sl false 3 [] (Tok.tip 8),D.sl false 129 (D.items (D.cell (List.getD (D.parts d0) 0 D.any) 3)) Tok.non,iv (nI (List.length (D.items (D.cell (List.getD (D.parts d0) 0 D.any) 3)))),iv (0:Int)] [Blk.arr true 68 1 [D.agg [bv false,iv (0:Int),iv (0:Int),iv (0:Int),iv (0:Int),iv (0:Int)]],Blk.arr true 129 1 [D.agg [iv (D.int (D.cell (List.getD (D.parts d0) 0 D.any) 0)),iv (D.int (D.cell (List.getD (D.parts d0) 0 D.any) 1)),D.v (Value.string (D.str (D.cell (List.getD (D.parts d0) 0 D.any) 2))),D.sl false 129 (D.items (D.cell (List.getD (D.parts d0) 0 D.any) 3)) Tok.non]],Blk.tip 3]) (fun L1=>M.br (nI (List.length (D.items (vd L1 1))) == (4:Int)) (M.get (D.items (vd L1 1)) (0:Int) fun d2=>M.br (D.int d2 == (1:Int)) (M.get (D.items (vd L1 1)) (1:Int) fun d3=>M.get (D.items (vd L1 1)) (2:Int) fun d4=>M.get (D.items (vd L1 1)) (3:Int) fun d5=>M.pure (Rs.ret (D.tup [D.agg [bk true,iv (D.int d3),iv (D.int d4),iv (D.int d5),ik (0:Int),ik (0:Int)],bk true]))) (M.br (nI (List.length (D.items (vd L1 1))) == (3:Int)) (M.get (D.items (vd L1 1)) (0:Int) fun d3=>M.br (D.int d3 == (2:Int)) (M.get (D.items (vd L1 1)) (1:Int) fun d4=>M.get (D.items (vd L1 1)) (2:Int) fun d5=>M.pure (Rs.ret (D.tup [D.agg [bk false,ik (0:Int),ik (0:Int),ik (0:Int),iv (D.int d4),iv (D.int d5)],bk true]))) (M.pure (Rs.ret (D.tup [D.agg [bv (D.bool (D.cell (vb L1 0) 0)),iv (D.int (D.cell (vb L1 0) 1)),iv (D.int (D.cell (vb L1 0) 2)),iv (D.int (D.cell (vb L1 0) 3)),iv (D.int (D.cell (vb L1 0) 4)),iv (D.int (D.cell (vb L1 0) 5))],bk false])))) (M.pure (Rs.ret (D.tup [D.agg [bv (D.bool (D.cell (vb L1 0) 0)),iv (D.int (D.cell (vb L1 0) 1)),iv (D.int (D.cell (vb L1 0) 2)),iv (D.int (D.cell (vb L1 0) 3)),iv (D.int (D.cell (vb L1 0) 4)),iv (D.int (D.cell (vb L1 0) 5))],bk false]))))) (M.br (nI (List.length (D.items (vd L1 1))) == (3:Int)) (M.get (D.items (vd L1 1)) (0:Int) fun d2=>M.br (D.int d2 == (2:Int)) (M.get (D.items (vd L1 1)) (1:Int) fun d3=>M.get (D.items (vd L1 1)) (2:Int) fun d4=>M.pure (Rs.ret (D.tup [D.agg [bk false,ik (0:Int),ik (0:Int),ik (0:Int),iv (D.int d3),iv (D.int d4)],bk true]))) (M.pure (Rs.ret (D.tup [D.agg [bv (D.bool (D.cell (vb L1 0) 0)),iv (D.int (D.cell (vb L1 0) 1)),iv (D.int (D.cell (vb L1 0) 2)),iv (D.int (D.cell (vb L1 0) 3)),iv (D.int (D.cell (vb L1 0) 4)),iv (D.int (D.cell (vb L1 0) 5))],bk false])))) (M.pure (Rs.ret (D.tup [D.agg [bv (D.bool (D.cell (vb L1 0) 0)),iv (D.int (D.cell (vb L1 0) 1)),iv (D.int (D.cell (vb L1 0) 2)),iv (D.int (D.cell (vb L1 0) 3)),iv (D.int (D.cell (vb L1 0) 4)),iv (D.int (D.cell (vb L1 0) 5))],bk false]))))) (fun L1=>M.pure (Rs.ret (D.tup [D.agg [bv (D.bool (D.cell (vb L1 0) 0)),iv (D.int (D.cell (vb L1 0) 1)),iv (D.int (D.cell (vb L1 0) 2)),iv (D.int (D.cell (vb L1 0) 3)),iv (D.int (D.cell (vb L1 0) 4)),iv (D.int (D.cell (vb L1 0) 5))],bv (D.bool (vd L1 1))]))) fun L1=>M.bad 154))):=by kernel_rfl
theorem rd_rea(B R:List D)(n i:Int):eRea (38,0) ⟨[.p 0 0 0,.sl false 3 R (.tip 8),sl 129 B,iv n,iv i],[.arr true 68 1 [.agg [bv false,iv 0,iv 0,iv 0,iv 0,iv 0]],.arr true 129 1 [.agg [iv 3,iv 0,.v (.string .empty),sl 129 B]],.tip 3],[]⟩=(M.br (decide (i<n)) (M.get B i fun d0=>M.br (D.int (D.cell d0 0) != (1:Int)) (M.bad 151) (M.need (decide (List.length R+(1:Nat)≤1099511627776)) (M.pure (none,(ls [D.p 0 0 0,D.sl false 3 (R++[iv (D.int (D.cell d0 1))]) (Tok.tip 8),sl 129 B,iv n,iv (w64 (i+(1:Int)))] [Blk.arr true 68 1 [D.agg [bv false,iv (0:Int),iv (0:Int),iv (0:Int),iv (0:Int),iv (0:Int)]],Blk.arr true 129 1 [D.agg [iv (3:Int),iv (0:Int),D.v (Value.string { data:=#[] }),sl 129 B]],Blk.tip 3]))))) (M.pure (some 0,(ls [D.p 0 0 0,D.sl false 3 R (Tok.tip 8)] [Blk.arr true 68 1 [D.agg [bv false,iv (0:Int),iv (0:Int),iv (0:Int),iv (0:Int),iv (0:Int)]],Blk.arr true 129 1 [D.agg [iv (3:Int),iv (0:Int),D.v (Value.string { data:=#[] }),sl 129 B]],Blk.tip 3])))):=by kernel_rfl
theorem t_loa(s:Int)(B:List D):callR cLoa [20] 20 [iv s,sl 57 B]=(M.loop (20,0) (ls [D.p 0 0 0,sl 57 B,iv (nI (List.length B)),iv (0:Int)] [Blk.arr true 27 1 [D.agg [iv s,D.sl false 64 [] Tok.non,D.sl false 66 [] Tok.non,D.sl false 4 [] Tok.non]]]) (fun L0=>M.call 6 [D.agg [iv (D.int (D.cell (vb L0 0) 0)),sl 64 (D.items (D.cell (vb L0 0) 1)),sl 66 (D.items (D.cell (vb L0 0) 2)),sl 4 (D.items (D.cell (vb L0 0) 3))]] [] fun d1 o1=>M.br (D.int d1 != (0:Int)) (M.pure (Rs.ret (D.tup [D.agg [ik (0:Int),D.sl true 64 [] Tok.nil,D.sl true 66 [] Tok.nil,D.sl true 4 [] Tok.nil],iv (D.int d1)]))) (M.pure (Rs.ret (D.tup [D.agg [iv (D.int (D.cell (vb L0 0) 0)),sl 64 (D.items (D.cell (vb L0 0) 1)),sl 66 (D.items (D.cell (vb L0 0) 2)),sl 4 (D.items (D.cell (vb L0 0) 3))],ik (0:Int)])))) (fun L0=>M.pure (Rs.ret (D.tup [D.agg [iv (D.int (D.cell (vb L0 0) 0)),sl 64 (D.items (D.cell (vb L0 0) 1)),sl 66 (D.items (D.cell (vb L0 0) 2)),sl 4 (D.items (D.cell (vb L0 0) 3))],iv (D.int (vd L0 1))]))) fun L0=>M.bad 154):=by kernel_rfl
theorem rd_loa(B:List D)(r:Rp)(n i:Int):eLoa (20,0) ⟨[.p 0 0 0,sl 57 B,iv n,iv i],[.arr true 27 1 [dRp r]],[]⟩=(M.br (decide (i<n)) (M.get B i fun d0=>M.call 38 [sl 5 (D.items d0)] [] fun d1 o1=>M.br (!D.bool (List.getD (D.parts d1) 1 D.any)) (M.pure (some 1,(ls [D.p 0 0 0,iv (530:Int)] [Blk.arr true 27 1 [D.agg [iv (0:Int),D.sl false 64 [] Tok.non,D.sl false 66 [] Tok.non,D.sl false 4 [] Tok.non]]]))) (M.call 16 [dRp r,D.agg [bv (D.bool (D.cell (List.getD (D.parts d1) 0 D.any) 0)),iv (D.int (D.cell (List.getD (D.parts d1) 0 D.any) 1)),iv (D.int (D.cell (List.getD (D.parts d1) 0 D.any) 2)),iv (D.int (D.cell (List.getD (D.parts d1) 0 D.any) 3)),iv (D.int (D.cell (List.getD (D.parts d1) 0 D.any) 4)),iv (D.int (D.cell (List.getD (D.parts d1) 0 D.any) 5))]] [] fun d2 o2=>M.pure (none,(ls [D.p 0 0 0,sl 57 B,iv n,iv (w64 (i+(1:Int)))] [Blk.arr true 27 1 [D.agg [iv (D.int (D.cell d2 0)),sl 64 (D.items (D.cell d2 1)),sl 66 (D.items (D.cell d2 2)),sl 4 (D.items (D.cell d2 3))]]])))) (M.pure (some 0,(ls [D.p 0 0 0] [b1 27 (dRp r)])))):=by kernel_rfl
abbrev stRea (l:List Int) (i:Nat):LSt:=⟨[.p 0 0 0,.sl false 3 ((l.take i).map iv) (.tip 8),sl 129 (l.map dNum),iv l.length,iv ((i:Nat):Int)],[.arr true 68 1 [.agg [bv false,iv 0,iv 0,iv 0,iv 0,iv 0]],.arr true 129 1 [.agg [iv 3,iv 0,.v (.string .empty),sl 129 (l.map dNum)]],.tip 3],[]⟩
theorem rea_lp{Γ:Cn}(l:List Int)(hl:l.length<1000):∃ j L,Lp eRea Γ (38,0) (stRea l 0) j L∧j=0∧L=⟨[.p 0 0 0,.sl false 3 (l.map iv) (.tip 8)],(stRea l 0).bs,[]⟩:=by
 refine lp_up (σ:=Unit) (fun i _=>stRea l i) l.length (fun _ _=>True) _ (fun i _ hi _=>?_) (fun _ _=>?_) (s:=()) trivial
 ·rw [rd_rea]
  refine⟨fun _=>⟨by omega,dNum (l[i]'hi),?_,(fun q=>nomatch q),fun _=>⟨?_,.inl ⟨(),?_,trivial⟩⟩⟩,fun h=>absurd (of_decide_eq_false h) (by omega)⟩
  ·rw [Int.toNat_natCast,List.getElem?_map,List.getElem?_eq_getElem hi];rfl
  ·refine decide_eq_true ?_
   rw [List.length_map,List.length_take];omega
  rw [w64_id (by omega) (by omega)]
  unfold stRea
  rw [List.take_succ_eq_append_getElem hi,List.map_append]
  rfl
 rw [rd_rea]
 refine⟨fun h=>absurd (of_decide_eq_true h) (by omega),fun _=>⟨0,_,rfl,rfl,?_⟩⟩
 rw [List.take_length]
 rfl
theorem recN_in{l:List Int}(h:RecN l):l.length<10∧∀ n∈l,0≤n∧n<8192:=by
 cases h with
 | lease h1 h2 h3 =>
  refine⟨(by decide:(4:Nat)<10),fun n hn=>?_⟩
  simp only [List.mem_cons,List.not_mem_nil,or_false]at hn
  rcases hn with rfl|rfl|rfl|rfl
  ·exact⟨by decide,by decide⟩
  ·exact h1
  ·exact h2
  exact h3
 | call h1 h2 =>
  refine⟨(by decide:(3:Nat)<10),fun n hn=>?_⟩
  simp only [List.mem_cons,List.not_mem_nil,or_false]at hn
  rcases hn with rfl|rfl|rfl
  ·exact⟨by decide,by decide⟩
  ·exact h1
  exact h2
theorem rea_ok(x:En)(hx:Nf x)(hr:RecN (recL x))(h:Heap):CallSd PP 38 [recD (recL x)] h (.ret (.tup [dEn x,bv true])) h:=by
 refine con_of (E:=eRea) (Γ:=consΓ [conDcd]) (C:=cRea) (l:=[38]) (.tup [kEn,kB]) (cons_ok rfl) (named_loop (id0:=(38,0)) (by kernel_rfl) (by kernel_rfl) (by kernel_rfl) (fun s=>by kernel_rfl) (fun L=>rfl) (NamedT.nil (P:=PP))) rfl rfl rfl (to_wp ?_) h
 rw [t_rea]
 obtain⟨hl,hn⟩:=recN_in hr
 obtain⟨j,L,g1,rfl,rfl⟩:=rea_lp (Γ:=consΓ [conDcd]) (recL x) (by omega)
 refine⟨.tup [dRec (recL x),iv 0],[],⟨conDcd,rfl,_,⟨recL x,by omega,hn,rfl,rfl⟩,rfl⟩,(fun q=>nomatch q),fun _=>⟨(fun q=>nomatch q),fun _=>.inl ⟨⟨[.p 0 0 0,.sl false 3 ((recL x).map iv) (.tip 8)],(stRea (recL x) 0).bs,[]⟩,?_,?_⟩⟩⟩
 ·have e:nI ((recL x).map dNum).length=((recL x).length:Int):=by rw [List.length_map]
  show Lp eRea _ (38,0) ⟨[.p 0 0 0,.sl false 3 [] (.tip 8),sl 129 ((recL x).map dNum),iv (nI ((recL x).map dNum).length),iv 0],_,[]⟩ 0 _
  rw [e]
  exact g1
 obtain⟨is,le,ca⟩:=x
 cases is with
 | true =>
  have hx:ca=⟨0,0⟩:=hx
  subst hx
  exact⟨fun _=>⟨Int.le_refl _,_,rfl,fun _=>⟨by decide,_,rfl,by decide,_,rfl,by decide,_,rfl,_,_,rfl,rfl,rfl⟩,fun q=>nomatch q⟩,fun q=>nomatch q⟩
 | false =>
  have hx:le=⟨0,0,0⟩:=hx
  subst hx
  exact⟨fun q=>(nomatch q),fun _=>⟨fun _=>⟨Int.le_refl _,_,rfl,fun _=>⟨by decide,_,rfl,by decide,_,rfl,_,_,rfl,rfl,rfl⟩,fun q=>nomatch q⟩,fun q=>nomatch q⟩⟩
def conRea:Con PP:=⟨38,[.one (.sl 5)],.tup [kEn,kB],fun args d=>∃ x,Nf x∧RecN (recL x)∧args=[recD (recL x)]∧d=.tup [dEn x,bv true],fun args d ⟨x,hx,hr,ha,hd⟩ h=>by subst ha;subst hd;exact rea_ok x hx hr h⟩
abbrev stLoa (s:Int) (E:List En) (i:Nat):LSt:=⟨[.p 0 0 0,sl 57 ((rcsE E).map recD),iv E.length,iv ((i:Nat):Int)],[.arr true 27 1 [dRp (ofE s (E.take i))]],[]⟩
abbrev gLoaC:List (Con PP):=[conChk,conWith,conRea]
theorem rcsE_get{E:List En}{i:Nat}{x:En}(h:E[i]?=some x):((rcsE E).map recD)[((i:Nat):Int).toNat]?=some (recD (recL x)):=by
 rw [Int.toNat_natCast,List.getElem?_map]
 unfold rcsE
 rw [List.getElem?_map,h];rfl
theorem loa_lp(s:Int)(E:List En)(hv:VE s E):∃ j L,Lp eLoa (consΓ gLoaC) (20,0) (stLoa s E 0) j L∧j=0∧L=⟨[.p 0 0 0],[.arr true 27 1 [dRp (ofE s E)]],[]⟩:=by
 have hsm:=hv.sm
 refine lp_up (σ:=Unit) (fun i _=>stLoa s E i) E.length (fun _ _=>True) _ (fun i _ hi _=>?_) (fun _ _=>?_) (s:=()) trivial
 ·have hx:=List.getElem?_eq_getElem hi
  rw [rd_loa]
  generalize E[i]=x at hx
  have hmem:=List.mem_of_getElem? hx
  have hrec:=ve_rec hv hmem
  refine⟨fun _=>⟨by omega,_,rcsE_get hx,_,[],⟨conRea,rfl,_,⟨x,hv.nf x hmem,hrec,rfl,rfl⟩,rfl⟩,(fun q=>nomatch q),fun _=>⟨_,[],⟨conWith,rfl,_,⟨ofE s (E.take i),x,sm_of (by rw [List.length_take];omega),rfl,rfl⟩,rfl⟩,.inl ⟨(),?_,trivial⟩⟩⟩,fun h=>absurd (of_decide_eq_false h) (by omega)⟩
  rw [w64_id (by omega) (by omega),with_of (hv.nf x hmem),← take_one hx]
  rfl
 rw [rd_loa]
 refine⟨fun h=>absurd (of_decide_eq_true h) (by omega),fun _=>⟨0,_,rfl,rfl,?_⟩⟩
 rw [List.take_length]
theorem loa_ok(s:Int)(E:List En)(hv:VE s E)(h:Heap):CallSd PP 20 [iv s,sl 57 ((rcsE E).map recD)] h (.ret (.tup [dRp (ofE s E),iv 0])) h:=by
 refine con_of (E:=eLoa) (Γ:=consΓ gLoaC) (C:=cLoa) (l:=[20]) (.tup [kRp,kI]) (cons_ok rfl) (named_loop (id0:=(20,0)) (by kernel_rfl) (by kernel_rfl) (by kernel_rfl) (fun s=>by kernel_rfl) (fun L=>rfl) (NamedT.nil (P:=PP))) rfl rfl rfl (to_wp ?_) h
 rw [t_loa]
 obtain⟨j,L,g1,rfl,rfl⟩:=loa_lp s E hv
 refine .inl ⟨⟨[.p 0 0 0],[.arr true 27 1 [dRp (ofE s E)]],[]⟩,?_,⟨_,[],⟨conChk,rfl,_,⟨s,E,hv,rfl,rfl⟩,rfl⟩,(fun q=>nomatch q),fun _=>⟨_,_,rfl,rfl,?_⟩⟩⟩
 ·have e:nI ((rcsE E).map recD).length=(E.length:Int):=by rw [List.length_map,rcsE,List.length_map]
  rw [e]
  exact g1
 show D.tup [D.vv (dRp _),iv 0]=_
 rw [vv_rp]
def conLoa:Con PP:=⟨20,[kI,.one (.sl 57)],.tup [kRp,kI],fun args d=>∃ s E,VE s E∧args=[iv s,sl 57 ((rcsE E).map recD)]∧d=.tup [dRp (ofE s E),iv 0],fun args d ⟨s,E,hv,ha,hd⟩ h=>by subst ha;subst hd;exact loa_ok s E hv h⟩
def conRcs:Con PP:=⟨17,[kRp],.tup [.one (.sl 57),kI],fun args d=>∃ s E,VE s E∧args=[dRp (ofE s E)]∧d=.tup [sl 57 ((rcsE E).map recD),iv 0],fun args d ⟨s,E,hv,ha,hd⟩ h=>by subst ha;subst hd;exact rcs_ok s E hv h⟩
end Z
end Go.Proofs.YtmgcclhbbhbmcaaGreat
