/- TopSound: lemmas, part 0. -/
import Derived.Test.YtijcgllddnpmhaaGreatDoorProg
import Derived.WalkKit
import Derived.ProofKit
import Derived.Outline
import Derived.Deep.LoopGhost
import Derived.Deep.Draws
import Derived.Deep.AppendLies
import Derived.Lib.Hide
import Derived.Lib.SlBytesConst
import Derived.Laws.CopyOwn
import Derived.Laws.AppendOwnNone
import Derived.Maps.AppendAt
import Derived.WalkSpells
import Derived.WalkLawsBesides
set_option maxRecDepth 100000
set_option maxHeartbeats 16000000
set_option linter.all false
namespace Go.Proofs.YtijcgllddnpmhaaGreatDoor
open Go.RowKit Go.Proofs.Tryz
universe u
theorem DR{α:Sort u}(a:α):∃x,x=a:=⟨a,rfl⟩
theorem DY{p:Prop}(h:p):Hid p:=Lib.hid h
theorem DS(w:World)(o:Obj):∃v,v=w.alloc o∧Below w.heap.size w v∧v.heap[w.heap.size]?=some o:=⟨_,rfl,(Below.refl _ _).alloc (Nat.le_refl _) o,heap_alloc_new w o⟩
theorem DT(w:World)(o p:Obj):∃v,v=(w.alloc o).alloc p∧Below w.heap.size w v∧v.heap[w.heap.size]?=some o:=⟨_,rfl,((Below.refl _ _).alloc (Nat.le_refl _) o).alloc (by simp) p,(((Below.refl _ (w.alloc o)).alloc (Nat.le_refl _) p).block _ (by simp)).trans (heap_alloc_new w o)⟩
abbrev DZ:= @And.intro
abbrev D0:= @Array.getElem?_eq_some_iff
abbrev D1:= @List.getElem?_eq_getElem
abbrev D3:= @Nat.le_trans
abbrev D4:= @List.getElem_cons_succ
abbrev D5:= @List.getElem_cons_zero
abbrev D6:= @Below.refl
abbrev D7:= @List.length_append
abbrev D8:= @List.getElem_toArray
abbrev D9:= @List.getD_eq_getElem?_getD
abbrev Na:= @Nat.le_refl
abbrev Nb:= @World.ownsRow_nil
abbrev Nc:= @List.setIfInBounds_toArray
abbrev Nd:= @Option.some.inj
abbrev Nf:= @List.set_cons_zero
abbrev Ng:= @List.set_cons_succ
abbrev Nh:= @Nat.lt_of_lt_of_le
abbrev Ni:= @List.length_take
abbrev Nj:= @Bool.and_eq_true_iff
abbrev Nk:= @World.cell?_alloc_mark
abbrev Nl:= @List.take_succ_eq_append_getElem
abbrev Nm:= @List.getElem_mem
abbrev Nn:= @List.length_replicate
abbrev No:= @List.length_cons
abbrev Np:= @List.nil_append
abbrev Nq:= @List.length_drop
abbrev Nr:= @World.size_alloc
abbrev Ns:= @List.map_append
abbrev Nt:= @List.mem_cons
abbrev Nu:= @Bool.and_eq_true
abbrev Nv:= @IntKind.wrap_i64
abbrev Nw:= @List.take_length
abbrev Ny:= @List.size_toArray
abbrev NA:= @List.mem_cons_of_mem
abbrev NB:= @Int.eq_ofNat_of_zero_le
abbrev NC:= @Nat.lt_or_ge
abbrev ND:= @Nat.zero_add
abbrev NE:= @Nat.mul_one
abbrev NF:= @List.getElem?_cons_succ
abbrev NG:= @List.getElem?_eq_some_iff
abbrev NH:= @List.cons_append
abbrev NI:= @List.getElem?_eq_none
abbrev NJ:= @Array.replicate_succ
abbrev NK:= @Array.replicate_zero
abbrev NL:= @List.eq_nil_of_length_eq_zero
abbrev NM:= @List.append_toArray
abbrev NN:= @List.length_map
abbrev NO:= @List.drop_eq_getElem_cons
abbrev NP:= @List.getElem?_cons_zero
abbrev NQ:= @List.append_assoc
abbrev NR:= @List.push_toArray
abbrev NS:= @List.getElem?_toArray
abbrev NT:= @World.grownBy.refl
abbrev NU:= @List.range_succ
abbrev NV:= @List.length_nil
abbrev NW:= @List.take_of_length_le
abbrev NX:= @List.all_eq_true
abbrev NY:= @List.mem_append
abbrev NZ:= @List.append_nil
abbrev N0:= @List.take_append_drop
abbrev N1:= @Nat.mod_two_eq_zero_or_one
abbrev N3:= @Int.toNat_natCast
abbrev N4:= @List.take_append_of_le_length
abbrev N6:= @Nat.eq_zero_or_pos
abbrev N7:= @Nat.lt_succ_self
abbrev N8:= @Option.getD_some
abbrev N9:= @Nat.reduceAdd
abbrev La:= @Nat.reduceSub
abbrev Lb:= @Nat.zero_le
abbrev Lc:= @List.mem_map_of_mem
abbrev Ld:= @Nat.pow_le_pow_right
abbrev Le:= @List.pairwise_cons
abbrev Lf:= @List.mem_singleton
abbrev Lg:= @List.map_cons
abbrev Lh:= @List.drop_of_length_le
abbrev Li:= @Option.some.injEq
abbrev Lj:= @List.length_singleton
abbrev Lk:= @Nat.le_of_lt
abbrev Ll:= @List.mem_cons_self
abbrev Lm:= @World.cell?_alloc_lt
abbrev Ln:= @List.mem_of_mem_take
abbrev Lo:= @List.ext_getElem
abbrev Lp:= @List.length_eq_zero_iff
abbrev Lq:= @List.mapM_cons
abbrev Lr:= @Array.replicate
abbrev Ls:= @List.getElem?_take
abbrev Lt:= @Array.getElem?_setIfInBounds_self_of_lt
abbrev Lu:= @List.sum_cons
abbrev Lv:= @List.take_zero
abbrev Lw:= @List.drop_zero
abbrev Lx:= @List.getElem?_map
abbrev Ly:= @Array.length_toList
abbrev Lz:= @World.grownBy_alloc
abbrev LA:= @List.mem_map
abbrev LB:= @List.map_toArray
abbrev LC:= @List.not_mem_nil
abbrev LD:= @List.drop_length
abbrev LE:= @List.getElem?_append_right
abbrev LF:= @List.zip_cons_cons
abbrev LG:= @Nat.lt_of_le_of_lt
abbrev LH:= @List.getElem?_append_left
abbrev LI:= @Int.natCast_mul
abbrev LJ:= @List.sum_append
abbrev LK:= @List.length_set
abbrev LL:= @World.ownsRow_lit
abbrev LM:= @List.all_eq_false
abbrev LN:= @List.length_range
abbrev LO:= @Array.toList_append
abbrev LP:= @List.getElem_of_mem
abbrev LQ:= @List.length_pos_iff
abbrev LR:= @List.mem_range
abbrev LS:= @List.getElem?_replicate
abbrev LT:= @Nat.mod_one
abbrev LU:= @Nat.mul_comm
abbrev LV:= @Nat.min_eq_left
theorem YA(a:Addr)(n:Nat):(a.add n).block=a.block:=by unfold Addr.add;split<;>rfl
theorem add_add'(a:Addr)(i j:Nat):(a.add i).add j=a.add (i+j):=by
 unfold Addr.add;by_cases hi:i=0<;>by_cases hj:j=0<;>simp[hi,hj,Nat.add_assoc]
theorem Zo(b o j:Nat):(⟨b,o,none⟩:Addr).add j=⟨b,o+j,none⟩:=by unfold Addr.add;split<;>simp_all
def bv(l:List UInt8):List Value:=l.map fun b=> .int .u8 (b.toNat:Int)
def iv(l:List Int):List Value:=l.map (Value.int .i64)
theorem Qm(l:List UInt8):(bv l).length=l.length:=by simp[bv]
theorem QK(l:List Int):(iv l).length=l.length:=by simp[iv]
theorem Ze(a b:List UInt8):bv (a++b)=bv a++bv b:=by simp[bv]
theorem Xb(a b:List Int):iv (a++b)=iv a++iv b:=by simp[iv]
theorem Xj(a:List UInt8)(k:Nat):(bv a).drop k=bv (a.drop k):=by simp[bv,List.map_drop]
theorem Xi(a:List UInt8)(k:Nat):(bv a).take k=bv (a.take k):=by simp[bv,List.map_take]
theorem iv_drop(a:List Int)(k:Nat):(iv a).drop k=iv (a.drop k):=by simp[iv,List.map_drop]
theorem iv_take(a:List Int)(k:Nat):(iv a).take k=iv (a.take k):=by simp[iv,List.map_take]
theorem bv_get(l:List UInt8)(k:Nat)(h:k<l.length):(bv l)[k]?=some (.int .u8 (l[k].toNat:Int)):=by simp[bv,h]
theorem Ub(l:List Int)(k:Nat)(h:k<l.length):(iv l)[k]?=some (.int .i64 l[k]):=by simp[iv,h]
theorem Yz(l:List UInt8):∀u∈bv l,u.oneCell'=true:=by
 intro u hu;simp only[bv,LA] at hu;obtain⟨b,_,rfl⟩:=hu;rfl
theorem Jo(l:List Int):∀u∈iv l,u.oneCell'=true:=by
 intro u hu;simp only[iv,LA] at hu;obtain⟨b,_,rfl⟩:=hu;rfl
def Qh(w:World)(B:Nat)(A:Option Addr)(xs:List Value):Prop:=
 0<xs.length->∃ad,A=some ad/\ad.block<B/\∀j u,xs[j]?=some u->w.cell? (ad.add j)=some u
section
variable {w w':World} {B B':Nat} {A:Option Addr} {xs:List Value}
theorem Qh.at_{k:Nat}(h:Qh w B A xs)(hk:k<xs.length):∃ad,A=some ad/\ad.block<B/\w.cell? (ad.add k)=some xs[k]:=by
 obtain⟨ad,e,hb,hc⟩:=h (by omega);exact⟨ad,e,hb,hc k _ (D1 hk)⟩
theorem Qh.keep(h:Qh w B A xs)(hk:∀p:Addr,p.block<B->w'.cell? p=w.cell? p):Qh w' B A xs:=fun hn=>by
 obtain⟨ad,e,hb,hc⟩:=h hn;exact⟨ad,e,hb,fun j u hu=>(hk _ (by rw[YA];exact hb)).trans (hc j u hu)⟩
theorem Qh.more(h:Qh w B A xs)(hB:B<=B'):Qh w B' A xs:=fun hn=>by
 obtain⟨ad,e,hb,hc⟩:=h hn;exact⟨ad,e,by omega,hc⟩
theorem Qh.below(h:Qh w B A xs)(hb:Below B w w'):Qh w' B A xs:=h.keep fun _ hp=>hb.cell hp
theorem Qh.ext(h:Qh w w.heap.size A xs)(hb:Below w.heap.size w w'):Qh w' w'.heap.size A xs:=(h.below hb).more hb.size
theorem Qh.drewN(h:Qh w B A xs)(k:Nat):Qh (w.drewN k) B A xs:=h
theorem Qh.drew(h:Qh w B A xs):Qh w.drew B A xs:=h
theorem Qh.alloc(h:Qh w B A xs)(hB:B<=w.heap.size)(o:Obj):Qh (w.alloc o) B A xs:=h.keep fun p hp=>World.cell?_alloc_lt w o p (by omega)
theorem Qh.setCell(h:Qh w B A xs){p:Addr}(hB:B<=p.block)(u:Value):Qh (w.setCell p u) B A xs:=
 h.keep fun q hq=>World.cell?_setCell_other w p q u (fun e=>by subst e;omega)
theorem Qh.grown(h:Qh w B A xs){row:Option Nat}(hg:w.grownBy w' row)(hB:B<=w.heap.size)(hr:∀g,row=some g->B<=g):Qh w' B A xs:=
 h.keep fun p hp=>World.cell?_of_block (hg.block p.block (by omega) (fun e=>by have:=hr _ e.symm;omega))
theorem Qh.drop(h:Qh w B A xs){k cap:Nat}(hc:xs.length<=cap):Qh w B (if cap=k then A else A.map (·.add k)) (xs.drop k):=fun hn=>by
 rw[Nq] at hn;obtain⟨ad,rfl,hb,z0⟩:=h (by omega);rw[if_neg (by omega)];refine⟨ad.add k,rfl,by rw[YA];exact hb,fun j u hu=>?_⟩
 rw[add_add'];exact z0 _ u (by rw[<-hu,List.getElem?_drop])
theorem Qh.take(h:Qh w B A xs)(k:Nat):Qh w B A (xs.take k):=fun hn=>by
 rw[Ni] at hn;obtain⟨ad,rfl,hb,z0⟩:=h (by omega);refine⟨ad,rfl,hb,fun j u hu=>z0 j u ?_⟩
 rw[Ls] at hu
 split at hu
 ·exact hu
 ·cases hu
theorem Qh.of_own{base n:Nat}{e:TypeId}{c:Nat}(h:w.ownsRow base e 1 (.slice A n c) n xs):Qh w w.heap.size A xs:=fun hn=>by
 have h1:=h.1;obtain⟨g,cap,hv,_,z0⟩:=h.form (by omega);have hA:A=some ⟨g,0,none⟩:=by injection hv
 subst hA;exact⟨_,rfl,z0,h.cells (g:=g) rfl⟩
end
theorem Qh.byte{w:World}{B:Nat}{A:Option Addr}{l:List UInt8}(h:Qh w B A (bv l)){k:Nat}(hk:k<l.length):
  ∃ad,A=some ad/\ad.block<B/\w.cell? (ad.add k)=some (.int .u8 (l[k].toNat:Int)):=by
 obtain⟨ad,e,hb,hc⟩:=h.at_ (k:=k) (by rw[Qm];exact hk);exact⟨ad,e,hb,by simpa[bv] using hc⟩
theorem Qh.num{w:World}{B:Nat}{A:Option Addr}{l:List Int}(h:Qh w B A (iv l)){k:Nat}(hk:k<l.length):
  ∃ad,A=some ad/\ad.block<B/\w.cell? (ad.add k)=some (.int .i64 l[k]):=by
 obtain⟨ad,e,hb,hc⟩:=h.at_ (k:=k) (by rw[QK];exact hk);exact⟨ad,e,hb,by simpa[iv] using hc⟩
theorem QN{w:World}{base n:Nat}{e:TypeId}{v:Value}{xs:List Value}(h:w.ownsRow base e 1 v n xs):∃A c,v= .slice A n c:=by
 rcases h.2 with⟨rfl,rfl⟩|⟨g,z0,cur,rfl,_⟩
 ·exact⟨none,0,rfl⟩
 ·exact⟨some ⟨g,0,none⟩,z0,rfl⟩
theorem QT{w w':World}{base n:Nat}{e:TypeId}{v:Value}{xs:List Value}(h:w.ownsRow base e 1 v n xs)(hb:Below w.heap.size w w'):w'.ownsRow base e 1 v n xs:=
 h.kept (row:=none) ⟨hb.os,hb.tape,hb.output,hb.size,fun i hi _=>hb.block i hi⟩ (by cases hv:v.ownBlock<;>simp)
theorem Q7{w:World}{base base' n:Nat}{e:TypeId}{v:Value}{xs:List Value}(h:w.ownsRow base e 1 v n xs)(hb:base'<=base):w.ownsRow base' e 1 v n xs:=by
 refine⟨h.1,?_⟩;rcases h.2 with hn|⟨g,z1,z0,hv,hg,r⟩
 ·exact .inl hn
 ·exact .inr ⟨g,z1,z0,hv,by omega,r⟩
theorem ret_int{k:IntKind}{a b:Int}(h:a=b):Ending.returned (.int k a)= .returned (.int k b):=by rw[h]
theorem RR{a b:Bool}(h:a=b):Ending.returned (.bool a)= .returned (.bool b):=by rw[h]
theorem Xn{α:Type}(l:List α)(k:Nat)(h:k<l.length):l.take (k+1)=l.take k++[l[k]]:=by
 rw[Nl h]
theorem wf_u8{n:Int}(h:(Lit.int .u8 n).wf=true):0<=n/\n<256:=by
 simp[Lit.wf,IntKind.min,IntKind.max,IntKind.bits,IntKind.signed] at h;omega
theorem wf_i64{n:Int}(h:(Lit.int .i64 n).wf=true): -9223372036854775808<=n/\n<=9223372036854775807:=by
 simp[Lit.wf,IntKind.min,IntKind.max,IntKind.bits,IntKind.signed] at h;omega
section
variable {P:Program}
theorem Va(w:World)(g:Nat)(ty t:TypeId)(old cells:Array Value)(hg:w.heap[g]?=some (.cells old t (0,0)))(hsz:old.size=cells.size)(hi:(P.info? ty).map (·.size)=some cells.size)(h1:∀v∈cells.toList,v.oneCell'=true):
  (storeVar ty ⟨g,0,none⟩ (.agg cells)).run P w= .ok () (w.setRow g cells):=by
 have:=run_storeCells_at (P:=P) g 0 t cells.toList 0 old w hg (by simp[hsz]) h1;cases hq:P.info? ty with
 |none=>simp[hq] at hi
 |some i=>
  have hs:cells.size=i.size:=by simp[hq] at hi;omega
  have hd:List.drop cells.size old.toList=[]:=Lh (by simp[hsz]);simp only[Nat.add_zero,ND,Lv,Np,Ly,hd,NZ,Array.toArray_toList] at this;simp[storeVar,sizeOf,typeInfo,hq,Value.cells,hs,this]
theorem Ql{ops:Array Oper}{rest:List Oper}{op:Oper}{a:Act}{w:World}{Q:Exit->Act->World->Prop}(hgd:op.guard=none)(ty:TypeId)(x y:Operand)(ho:op.op= .store ty x y)
  (g:Nat) (cells:Array Value) (hx:a.eval x= .pointer (some ⟨g,0,none⟩)) (hy:a.eval y= .agg cells) (old:Array Value) (t:TypeId)
  (hg:w.heap[g]?=some (.cells old t (0,0))) (hsz:old.size=cells.size) (hi:(P.info? ty).map (·.size)=some cells.size) (h1:∀v∈cells.toList,v.oneCell'=true)
  (h:∀W,W.heap[g]?=some (.cells cells t (0,0))->w.grownBy W (some g)->W.heap.size=w.heap.size->wpList P ops Q rest (a.put op.dst undef) W):wpList P ops Q (op::rest) a w:=
 wpList_plain hgd fun _ hK=>by
  unfold Oper.wp execOp;simp only[ho,hx,hy,Instr.storeAt,Instr.sureAddr,Sem.run_bind,Sem.run_pure,Result.andThen_ok,Va w g ty t old cells hg hsz hi h1];exact hK _ _ (h _ (setRow_heap w g old cells t _ hg) ⟨rfl,rfl,rfl,by simp,fun k hk hne=>setRow_other w g k cells (fun e=>hne (by rw[e]))⟩ (by simp))
end
theorem V6(a:Nat)(ha:a<9223372036854775808):(BitVec.ofInt 64 (a:Int)).toNat=a:=by
 rw[BitVec.ofInt_natCast,BitVec.toNat_ofNat];exact Nat.mod_eq_of_lt (by omega)
theorem i64_or_n(a b:Nat)(ha:a<9223372036854775808)(hb:b<9223372036854775808):bits .or .i64 (a:Int) (b:Int)=((a|||b:Nat):Int):=by
 have hx:a|||b<2 ^ 63:=Nat.or_lt_two_pow (by omega) (by omega)
 show IntKind.i64.wrap ((BitVec.ofInt 64 (a:Int)|||BitVec.ofInt 64 (b:Int)).toNat:Int)=_
 rw[BitVec.toNat_or,V6 a ha,V6 b hb,Nv];omega
theorem i64_xor_n(a b:Nat)(ha:a<9223372036854775808)(hb:b<9223372036854775808):bits .xor .i64 (a:Int) (b:Int)=((a ^^^ b:Nat):Int):=by
 have hx:a ^^^ b<2 ^ 63:=Nat.xor_lt_two_pow (by omega) (by omega)
 show IntKind.i64.wrap ((BitVec.ofInt 64 (a:Int)^^^ BitVec.ofInt 64 (b:Int)).toNat:Int)=_
 rw[BitVec.toNat_xor,V6 a ha,V6 b hb,Nv];omega
theorem i64_mask(n:Int)(k:Nat)(hk:k<=62)(m:Int)(hm:m=(2 ^ k-1:Nat)):bits .and .i64 n m=n %(2 ^ k:Nat):=by
 subst hm;have hp:(2:Nat)^ k<=2 ^ 62:=Ld (by omega) hk;have hp0:0<(2:Nat)^ k:=Nat.two_pow_pos k
 show IntKind.i64.wrap ((BitVec.ofInt 64 n&&&BitVec.ofInt 64 ((2 ^ k-1:Nat):Int)).toNat:Int)=_
 rw[BitVec.toNat_and,V6 _ (by omega),Nat.and_two_pow_sub_one_eq_mod,Nv,BitVec.toNat_ofInt];have hd:(2 ^ 64:Int)%((2 ^ k:Nat):Int)=0:=by
  have:(2:Nat)^ 64=2 ^ k*2 ^(64-k):=by rw[<-Nat.pow_add];congr 1;omega
  have h2:(2 ^ 64:Int)=((2 ^ k*2 ^(64-k):Nat):Int):=by rw[<-this];rfl
  rw[h2];simp[LI]
 have e1:(((n %((2 ^ 64:Nat):Int)).toNat % 2 ^ k:Nat):Int)=n %((2 ^ k:Nat):Int):=by
  rw[Int.natCast_emod,Int.toNat_of_nonneg (Int.emod_nonneg _ (by omega))];exact Int.emod_emod_of_dvd _ (Int.dvd_of_emod_eq_zero hd)
 have hlt:n %((2 ^ k:Nat):Int)<((2 ^ k:Nat):Int):=Int.emod_lt_of_pos _ (by omega);have hge:0<=n %((2 ^ k:Nat):Int):=Int.emod_nonneg _ (by omega);rw[e1];omega
section
variable {P:Program}
theorem Vb(w:World)(src dst e:TypeId)(hs:P.underlying src=some (.slice e))(he:P.underlying e=some (.int .u8))(hd:P.underlying dst=some .string)
  {B:Nat} {A:Option Addr} {l:List UInt8} (n c:Nat) (hn:n=l.length) (h:Qh w B A (bv l)):(convert src dst (.slice A n c)).run P w= .ok (.string ⟨l.toArray⟩) w:=by
 subst hn;rcases N6 l.length with h0|h0
 ·have hl:l=[]:=NL h0;subst hl;cases A with
  |none=>exact run_convert_bytes_nil w src e hs he 0 c dst hd
  |some a=>exact run_convert_bytes_back w src dst e a c [] hs he hd (by simp)
 ·obtain⟨ad,rfl,_,hc⟩:=h (by rw[Qm];exact h0);exact run_convert_bytes_back w src dst e ad c l hs he hd (fun j hj=>hc j _ (bv_get l j hj))
end
theorem Qh.new(w:World)(cs:List Value)(t:TypeId)(fr:Nat×Nat):Qh (w.alloc (.cells cs.toArray t fr)) (w.heap.size+1) (some ⟨w.heap.size,0,none⟩) cs:=fun _=>by
 refine⟨_,rfl,N7 _,fun j u hu=>?_⟩
 rw[Zo,ND,World.cell?_alloc_mark];simpa using hu
theorem Qd(w:World)(o:Obj):Below w.heap.size w (w.alloc o):=(D6 _ _).alloc (Na _) o
theorem QG(w:World)(o o':Obj):Below w.heap.size w ((w.alloc o).alloc o'):=(Qd w o).alloc (by simp) o'
theorem Qb{w w1 w2:World}(h:Below w.heap.size w w1)(k:Below w1.heap.size w1 w2):Below w.heap.size w w2:=h.trans (k.mono h.size)
def XQ(e:TypeId)(xs:List Value)(w:World)(en:Ending)(w':World):Prop:=
 ∃A c,en= .returned (.slice A xs.length c)/\w'.ownsRow w.heap.size e 1 (.slice A xs.length c) xs.length xs/\Below w.heap.size w w'
section
variable {P:Program} (w:World)
theorem U2(base:Nat)(t ty e:TypeId)(i:TypeInfo)(ht:P.underlying t=some (.slice e))(hi:P.info? e=some i)
  (v:Value) (n:Nat) (xs:List Value) (hown:w.ownsRow base e 1 v n xs) (c:Nat):(Builtin.append_ #[t,t] ty #[v, .slice none 0 c]).run P w= .ok v w:=by
 rcases hown.2 with⟨rfl,rfl⟩|⟨g,cap,cur,rfl,_,_,z0,_⟩
 ·simp[Builtin.append_,run_underlying ht,sizeOf,typeInfo,hi,Builtin.lenOf,Builtin.firstCells]
 ·simp[Builtin.append_,run_underlying ht,sizeOf,typeInfo,hi,Builtin.lenOf,Builtin.firstCells,z0,storeCells]
theorem ZF{w w':World}{base n:Nat}{e:TypeId}{v:Value}{xs:List Value}(hown:w.ownsRow base e 1 v n xs)(hbase:base<=w.heap.size)(hg:w.grownBy w' v.ownBlock):Below base w w':=
 (D6 _ _).grown hg hbase (fun k hk=>(hown.lt k hk).1)
theorem UQ(base:Nat)(t ty e:TypeId)(i:TypeInfo)(z:Value)(bytes:Nat)(ht:P.underlying t=some (.slice e))(hi:P.info? e=some i)(hz:i.zero=some z)
  (hsize:i.size=1) (hby:i.bytes=bytes) (hzs:z.cells.size=1)
  (v:Value) (n:Nat) (xs:List Value) (hown:w.ownsRow base e 1 v n xs)
  (B:Nat) (A:Option Addr) (m c:Nat) (news:List Value) (hm:m=news.length) (hr:Qh w B A news) (h1:∀u∈news,u.oneCell'=true)
  (h63:n+m<=maxLen) (hbytes:(n+m)*bytes<=140737488355328) (hbase:base<=w.heap.size):
  ∃v' w',(Builtin.append_ #[t,t] ty #[v, .slice A m c]).run P w= .ok v' w'/\w'.ownsRow base e 1 v' (n+m) (xs++news)/\w.grownBy w' v.ownBlock/\
   (v'.ownBlock=v.ownBlock∨v'.ownBlock=some w.heap.size):=by
 subst hm;rcases A with _|ad
 ·have hn:news=[]:=by
   rcases news with _|⟨u,us⟩
   ·rfl
   ·obtain⟨ad,h,_⟩:=hr (by simp);cases h
  subst hn;exact⟨v,w,U2 w base t ty e i ht hi v n xs hown c,by simpa using hown,NT w _, .inl rfl⟩
 ·have z0:∀j u,news[j]?=some u->w.cell? (ad.add j)=some u:=by
   intro j u hu;obtain⟨ad',h,_,hc⟩:=hr (by have:=(NG.1 hu).1;omega)
   injection h with h
   subst h;exact hc j u hu
  obtain⟨v',w',z1,h2,h3,_,h5⟩:=run_append_own_at (P:=P) w base t ty e i z 1 bytes ht hi hz hsize hby hzs (by omega) v n xs hown ad news.length c news (by omega) z0 h1 h63 hbytes hbase;exact⟨v',w',z1,h2,h3,h5⟩
theorem QE{ops:Array Oper}{rest:List Oper}{o:Oper}{a:Act}{Q:Exit->Act->World->Prop}(hgd:o.guard=none)(s x:Operand)(t:TypeId)
  (ho:o.op= .call {callee:= .builtin .append,args:=#[s,x],argTypes:=#[t,t]})
  (base:Nat) (e:TypeId) (i:TypeInfo) (z:Value) (bytes:Nat) (ht:P.underlying t=some (.slice e)) (hi:P.info? e=some i) (hz:i.zero=some z)
  (hsize:i.size=1) (hby:i.bytes=bytes) (hzs:z.cells.size=1)
  (v:Value) (n:Nat) (xs:List Value) (hs:a.eval s=v) (hown:w.ownsRow base e 1 v n xs)
  (B:Nat) (A:Option Addr) (m c:Nat) (news:List Value) (hx:a.eval x= .slice A m c) (hm:m=news.length) (hr:Qh w B A news) (h1:∀u∈news,u.oneCell'=true)
  (h63:n+m<=maxLen) (hbytes:(n+m)*bytes<=140737488355328) (hbase:base<=w.heap.size)
  (h:∀A' c' w',w'.ownsRow base e 1 (.slice A' (n+m) c') (n+m) (xs++news)->w.grownBy w' v.ownBlock->Below base w w'->
   ((Value.slice A' (n+m) c').ownBlock=v.ownBlock∨(Value.slice A' (n+m) c').ownBlock=some w.heap.size)->wpList P ops Q rest (a.put o.dst (.slice A' (n+m) c')) w'):wpList P ops Q (o::rest) a w:=
 wpList_plain hgd fun _ hK=>by
  obtain⟨v',w',z0,h2,h3,h4⟩:=UQ (P:=P) w base t o.type e i z bytes ht hi hz hsize hby hzs v n xs hown B A m c news hm hr h1 h63 hbytes hbase;obtain⟨A',c',rfl⟩:=QN h2;unfold Oper.wp execOp;simp only[ho,resolve,invoke,builtin,Sem.run_bind,Sem.run_pure,Result.andThen_ok,LB,Lg,List.map_nil,hs,hx,z0];exact hK _ _ (h A' c' w' h2 h3 (ZF hown hbase h3) h4)
end
theorem Qg{W W':World}{p:Addr}{v:Value}(hb:Below W.heap.size W W')(h:W.cell? p=some v):W'.cell? p=some v:=(hb.cell (block_lt_of_cell h)).trans h
def VP(w:World)(B:Nat)(A:Option Addr)(ps:List (List UInt8)):Prop:=
 0<ps.length->∃ad,A=some ad/\ad.block<B/\∀j l,ps[j]?=some l->∃a c,w.cell? (ad.add j)=some (.slice a l.length c)/\Qh w B a (bv l)/\l.length<=maxLen
theorem VP.below{w w':World}{B:Nat}{A:Option Addr}{ps:List (List UInt8)}(h:VP w B A ps)(hb:Below B w w'):VP w' B A ps:=fun hn=>by
 obtain⟨ad,e,z0,hc⟩:=h hn;refine⟨ad,e,z0,fun j l hj=>?_⟩
 obtain⟨a,c,h1,h2,h3⟩:=hc j l hj;exact⟨a,c,(hb.cell (p:=ad.add j) (by rw[YA];exact z0)).trans h1,h2.below hb,h3⟩
theorem VP.more{w:World}{B B':Nat}{A:Option Addr}{ps:List (List UInt8)}(h:VP w B A ps)(hB:B<=B'):VP w B' A ps:=fun hn=>by
 obtain⟨ad,e,hbb,hc⟩:=h hn;exact⟨ad,e,by omega,fun j l hj=>let⟨a,c,h1,h2,h3⟩:=hc j l hj;⟨a,c,h1,h2.more hB,h3⟩⟩
theorem VP.one{w:World}{A:Option Addr}{l:List UInt8}(t:TypeId)(n c:Nat)(hn:n=l.length)(h:Qh w w.heap.size A (bv l))(hm:l.length<=maxLen):
  VP (w.alloc (.cells #[.slice A n c] t)) (w.heap.size+1) (some ⟨w.heap.size,0,none⟩) [l]:=fun _=>by
 subst hn;refine⟨_,rfl,N7 _,fun j m hj=>?_⟩
 have z0:=(NG.1 hj).1;simp at z0;subst z0;simp at hj;subst hj;refine⟨A,c,?_,(h.alloc (Na _) _).more (Nat.le_succ _),hm⟩;rw[Zo,Nk]
 rfl
theorem XQ.from{e:TypeId}{xs:List Value}{w w1 w2:World}{en:Ending}(hb:Below w.heap.size w w1)(h:XQ e xs w1 en w2):XQ e xs w en w2:=by
 obtain⟨A,c,rfl,z0,z1⟩:=h;exact⟨A,c,rfl,Q7 z0 hb.size,Qb hb z1⟩
theorem u64_or_join(x b:Nat)(hx:x<72057594037927936)(hb:b<256):bits .or .u64 ((x:Int)*256) (b:Int)=((b+256*x:Nat):Int):=by
 rw[show((x:Int)*256)=((x*256:Nat):Int) by omega,u64_or_nat _ _ (by omega) (by omega),nat_join 8 (x*256) b (by omega) (by omega)]
 omega
end Go.Proofs.YtijcgllddnpmhaaGreatDoor
