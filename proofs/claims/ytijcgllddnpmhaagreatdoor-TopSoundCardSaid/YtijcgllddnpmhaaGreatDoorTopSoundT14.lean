/- TopSound: lemmas, part 14. -/
import Derived.Test.YtijcgllddnpmhaaGreatDoorTopSoundT11
import Derived.Test.YtijcgllddnpmhaaGreatDoorTopSoundT12
import Derived.Test.YtijcgllddnpmhaaGreatDoorTopSoundT07
import Derived.Deep.RegionWith
set_option maxRecDepth 100000
set_option maxHeartbeats 16000000
set_option linter.all false
namespace Go.Proofs.YtijcgllddnpmhaaGreatDoor
open Go.RowKit Go.Proofs.Tryz
def Jn(bs:List UInt8):Nat:=bs.length / 256
def blkAt(bs:List UInt8)(no:Int):List UInt8:=(bs.drop (no.toNat*256)).take 256
def blkIn(bs:List UInt8)(no:Int):Bool:=decide (0<=no)&&decide (no<(Jn bs:Int))
def OC(bs:List UInt8)(no kind:Int):Option (List UInt8):=
 if blkIn bs no=true then(if ZA (blkAt bs no) kind no=0 then some (XM (blkAt bs no) kind no) else none) else none
def U8(tree:Int)(p:List UInt8):Option QF:=
 if XZ p=0 then(if tree≠0/\(YW p).t≠tree then none else some (YW p)) else none
def ZD(bs:List UInt8)(no tree:Int):Option QF:=(OC bs no 2).bind (U8 tree)
def Of(p:List UInt8):Option (List Int):=if Ui p=0 then some (GV p) else none
def ZV(bs:List UInt8)(no:Int):Option (List Int):=(OC bs no 3).bind Of
def Jp(p:List UInt8):Option (List S3):=if JU p=0 then some (O6 p) else none
def Zs(bs:List UInt8)(no:Int):Option (List S3):=(OC bs no 4).bind Jp
def Jh(n:Nat)(p:List UInt8):Option (Nat->Int):=if X9 p=0 then(if(n:Int)<Z8 p 4 then none else some (Z8 p)) else none
def QZ(bs:List UInt8):Option (Nat->Int):=(OC bs 0 1).bind (Jh (Jn bs))
structure WS where
 ents:List Qv
 deep:Int
 looked:Int
 bad:Bool
 dry:Bool
def WS.fail(s:WS):WS:={s with bad:=true}
def WS.see(s:WS):WS:={s with looked:=s.looked+1}
def JQ(lo hi:Int):Bool:=decide (0<=lo/\lo<=hi/\hi<=281474976710656)
def VK:List Int->Bool
 |[]=>true
 |[_]=>true
 |a::b::r=>decide (a<b)&&VK (b::r)
def Ue(lo hi k:Int):Bool:=decide (lo<=k/\k<hi)
def Z0(lo hi:Int)(keys:List Int):Bool:=
 JQ lo hi&&(VK keys&&(decide (keys=[])||(Ue lo hi (keys.headD 0)&&Ue lo hi (keys.getLastD 0))))
def Xh(hi:Int):List Int->List (Int×Int)
 |[]=>[]
 |[k]=>[(k,hi)]
 |a::b::r=>(a,b)::Xh hi (b::r)
def Zw(no:Int):List Int->List (List UInt8)->List Qv
 |k::ks,v::vs=>⟨k,v,no⟩::Zw no ks vs
 |_,_=>[]
def Yl(f:Int->Int->Int->WS->WS):List (List UInt8)->List (Int×Int)->WS->WS
 |v::vs,(lo,hi)::ss,s=>
  let t:=if rdE [QB] v=0 then f (rd1 QB v) lo hi s else s.fail
  if t.dry=true then t else Yl f vs ss t
 |_,_,s=>s
def Zx(bs:List UInt8)(tree fuel:Int):Nat->List Int->Int->Int->Int->WS->WS
 |0,_,_,_,_,s=>if fuel<=s.looked then{s with bad:=true,dry:=true} else s.see.fail
 |d+1,way,no,lo,hi,s=>
  if fuel<=s.looked then{s with bad:=true,dry:=true}
  else if no∈way then s.see.fail
  else match ZD bs no tree with
   |none=>s.see.fail
   |some n=>
    if Z0 lo hi n.keys=false then s.see.fail
    else if n.leaf=true then
     (if s.deep≠0/\s.deep≠(way.length:Int)+1 then s.see.fail
      else{s.see with deep:=(way.length:Int)+1,ents:=s.ents++Zw no n.keys n.vals})
    else Yl (Zx bs tree fuel d (way++[no])) n.vals (Xh hi n.keys) s.see
def ws0:WS:=⟨[],0,0,false,false⟩
def QP(bs:List UInt8)(root tree fuel:Int):WS:=Zx bs tree fuel 16 [] root 0 281474976710656 ws0
def Xw(bs:List UInt8)(root tree fuel:Int):Option (List Qv):=
 if(QP bs root tree fuel).bad=true then none else some (QP bs root tree fuel).ents
def ZS(n:Int):Int:=if n<1 then 0 else(n-1)/ 960+1
def Zm(bs:List UInt8)(x:Option S3)(want:Int):Option (List Int):=
 x.bind fun s=>(ZV bs s.1).bind fun l=>if(l.length:Int)=want/\(Q9 l:Int)=s.2.1/\(Zp l:Int)=s.2.2 then some l else none
def Ye(bs:List UInt8):List (Option S3)->Int->Option (List (List Int))
 |[],_=>some []
 |x::r,n=>(Zm bs x (min n 960)).bind fun l=>(Ye bs r (n-min n 960)).map fun q=>l::q
def UM(bs:List UInt8)(l:List (Option S3))(over n fuel:Int):Option (List Int):=
 (Ye bs l n).bind fun ls=>(Xw bs over 5 fuel).bind fun es=>if Yf ls es=0 then some (YY ls es) else none
def Y9(v:List UInt8):Option S3:=if rdE Q5 v=0 then some ((rdN Q5 v).getD 0 0,(rdN Q5 v).getD 1 0,(rdN Q5 v).getD 2 0) else none
def Xv:Int->List Qv->Bool
 |_,[]=>true
 |i,e::r=>decide (e.key=i)&&Xv (i+1) r
def Xu(bs:List UInt8)(index over n fuel:Int):Option (List Int):=
 (Xw bs index 4 fuel).bind fun es=>if(es.length:Int)=ZS n/\Xv 0 es=true then UM bs (es.map fun e=>Y9 e.val) over n fuel else none
def X3(bs:List UInt8)(index over n fuel:Int):Option (List Int):=
 (Zs bs index).bind fun ss=>if(ss.length:Int)=ZS n then UM bs (ss.map some) over n fuel else none
def Xg{α:Type}(f:α->List Int->Option (List Int)):List α->List Int->Option (List Int)
 |[],cs=>some cs
 |x::r,cs=>(f x cs).bind (Xg f r)
def Oy(n:QF)(v:List UInt8):Option (Option (Int×Int)):=
 if n.leaf=true/\n.t=4 then(if rdE Q5 v=0 then some (some ((rdN Q5 v).getD 0 0,-2)) else none)
 else if n.leaf=true/\n.t=1 then(if rdE [QB] v=0 then some (some (rd1 QB v,2)) else none)
 else if n.leaf=false then(if rdE [QB] v=0 then some (some (rd1 QB v,n.t)) else none)
 else some none
def Ud(bs:List UInt8)(refer:Int×Int->List Int->Option (List Int))(no as_:Int)(cs:List Int):Option (List Int):=
 if as_= -1 then(Zs bs no).bind fun l=>Xg (fun s:S3=>refer (s.1,-2)) l cs
 else if as_= -2 then(ZV bs no).map fun _=>cs
 else(ZD bs no as_).bind fun n=>Xg (fun v cs=>(Oy n v).bind fun q=>match q with|none=>some cs|some r=>refer r cs) n.vals cs
def QJ(bs:List UInt8):Nat->Int×Int->List Int->Option (List Int)
 |0,_,_=>none
 |d+1,r,cs=>if 0<=r.1/\r.1<(cs.length:Int) then
   (if cs.getD r.1.toNat 0≠0 then some (cs.set r.1.toNat (cs.getD r.1.toNat 0+1)) else Ud bs (QJ bs d) r.1 r.2 (cs.set r.1.toNat (cs.getD r.1.toNat 0+1)))
  else none
def rootsOf(s:Nat->Int):List (Int×Int):=[(s 5,1),(s 6,3),(s 7,4),(s 8,5),(s 9,-1),(s 10,5)]
def XJ(bs:List UInt8)(s:Nat->Int):Option (List Int):=
 if okS s 11=true then Xg (QJ bs ((s 4).toNat+1)) (rootsOf s) ((List.replicate (s 4).toNat 0).set 0 1) else none
structure ZO where
 v:Int
 b:Int
 t:Int
 deriving DecidableEq
structure Q4 where
 id:Int
 tx:Int
 made:Int
 snapped:Int
 maps:List ZO
 deriving DecidableEq
structure Xe where
 tx:Int
 time:Int
 unit_:Int
 data:Int
 devs:List Q4
 deriving DecidableEq
def inI(n lo hi:Int):Bool:=decide (lo<=n/\n<=hi)
def ZL(p:Xe):Nat:=(p.devs.map fun d=>d.maps.length).sum
def XK(data:Int):Int->List ZO->Bool
 |_,[]=>true
 |last,m::r=>inI m.v 0 281474976710655&&(inI m.b 0 (data-1)&&(inI m.t 0 16777215&&(decide (last<m.v)&&XK data m.v r)))
def Yy(data:Int):Int->List Q4->Bool
 |_,[]=>true
 |last,d::r=>inI d.id 0 16777215&&(inI d.tx 0 2147483647&&(inI d.made 0 16777215&&(inI d.snapped 0 16777215&&(decide (last<d.id)&&(XK data (-1) d.maps&&Yy data d.id r)))))
def Xx(p:Xe):Bool:=
 inI p.tx 0 2147483647&&(inI p.time 0 16777215&&(inI p.unit_ 1 65536&&(inI p.data 0 65536&&(decide (p.devs.length<=4096)&&(decide (ZL p<=16384)&&Yy p.data (-1) p.devs)))))
def Yk(p:Xe):List Int:=if Xx p=true then(p.devs.flatMap Q4.maps).foldl (fun cs m=>Jd cs m.b) (List.replicate p.data.toNat 0) else []
def ZN(data:Int)(e:Qv):Option ZO:=
 if rdE [XU] e.val=0/\rd1 XU e.val / 16777216<data then some ⟨e.key,rd1 XU e.val / 16777216,rd1 XU e.val % 16777216⟩ else none
def ZM(bs:List UInt8)(data fuel root:Int):Option (List ZO):=(Xw bs root 2 fuel).bind fun es=>es.mapM (ZN data)
def Xz(bs:List UInt8)(data fuel:Int)(d t:Qv):Option Q4:=
 if d.key<=16777215/\rdE QU d.val=0/\rdE [QB] t.val=0 then
  (ZM bs data fuel (rd1 QB t.val)).bind fun l=>if(l.length:Int)=(rdN QU d.val).getD 0 0 then some ⟨d.key,(rdN QU d.val).getD 1 0,(rdN QU d.val).getD 2 0,(rdN QU d.val).getD 3 0,l⟩ else none
 else none
def ZU(bs:List UInt8)(data fuel:Int):Nat->List (Qv×Qv)->Option (List Q4)
 |_,[]=>some []
 |sum,(d,t)::r=>(Xz bs data fuel d t).bind fun x=>if sum+x.maps.length<=16384 then(ZU bs data fuel (sum+x.maps.length) r).map fun l=>x::l else none
def QY(bs:List UInt8)(top details data fuel:Int):Option (List Q4):=
 (Xw bs details 3 fuel).bind fun d=>(Xw bs top 1 fuel).bind fun t=>
  if d.length<=4096/\d.map Qv.key=t.map Qv.key then ZU bs data fuel 0 (d.zip t) else none
def Vf(bs:List UInt8)(fuel:Int):Option (Xe×(Nat->Int)):=
 (QZ bs).bind fun s=>(QY bs (s 5) (s 6) (s 3) fuel).map fun l=>(⟨s 0,s 1,s 2,s 3,l⟩,s)
theorem irdB_eq{bs:List UInt8}{no:Int}(h:Y0 bs.length no=0):Y1 bs no=blkAt bs no/\blkIn bs no=true:=by
 have h2:=Ux.1 h;unfold Y1 blkAt blkIn Jn;rw[if_pos h];exact⟨rfl,by simp;omega⟩
theorem OA{bs:List UInt8}{no:Int}(k:Int)(h:Y0 bs.length no≠0):OC bs no k=none:=by
 unfold OC;rw[if_neg];intro h2;apply h
 apply Ux.2
 unfold blkIn Jn at h2;simp at h2;omega
theorem OB{bs:List UInt8}{no k:Int}(h:Y0 bs.length no=0)(h2:ZA (Y1 bs no) k no≠0):OC bs no k=none:=by
 obtain⟨e,hi⟩:=irdB_eq h;unfold OC;rw[if_pos hi,<-e,if_neg h2]
theorem Rh{bs:List UInt8}{no k:Int}(h:Y0 bs.length no=0)(h2:ZA (Y1 bs no) k no=0):OC bs no k=some (XM (Y1 bs no) k no):=by
 obtain⟨e,hi⟩:=irdB_eq h;unfold OC;rw[if_pos hi,<-e,if_pos h2]
theorem OK{bs:List UInt8}{no:Int}(h:Y0 bs.length no=0):(Y1 bs no).length=256:=by
 have h2:=Ux.1 h;unfold Y1;rw[if_pos h,List.length_take,Nq];omega
theorem Ut{b:List UInt8}{k n:Int}(h:ZA b k n=0):(XM b k n).length=244:=by
 unfold XM;rw[if_pos h];unfold ZA at h;have hl:b.length=256:=by
  apply Classical.byContradiction
  intro hl;by_cases hk:XV k n=false
  ·rw[if_pos hk] at h;cases h
  ·rw[if_neg hk,if_pos hl] at h;cases h
 rw[Ni,Nq,hl]
 rfl
def DO(t:TypeId)(s:Nat)(xs:Option (List Value))(w:World)(e:Ending)(w':World):Prop:=
 ((∃l A n c,xs=some l/\e= .returned (.tuple #[.slice A n c, .nilIface])/\l.length=n*s/\n<=c/\w'.ownsRow w.heap.size t s (.slice A n c) n l)∨(xs=none/\∃v,e= .returned (.tuple #[.slice none 0 0,v])/\Qy 1 w' w'.heap.size v))/\Below w.heap.size w w'
theorem QO{w:World}{base base' n s:Nat}{e:TypeId}{v:Value}{xs:List Value}(h:w.ownsRow base e s v n xs)(hb:base'<=base):w.ownsRow base' e s v n xs:=by
 refine⟨h.1,?_⟩;rcases h.2 with hn|⟨g,z1,z0,hv,hg,r⟩
 ·exact .inl hn
 ·exact .inr ⟨g,z1,z0,hv,by omega,r⟩
theorem YI{w:World}{base n c s:Nat}{e:TypeId}{A:Option Addr}{xs:List Value}(h:w.ownsRow base e s (.slice A n c) n xs):n<=c:=by
 rcases h.2 with⟨hv,hz⟩|⟨g',cap,cur,hv,_,_,hnc,_⟩
 ·omega
 ·injection hv with e1 e2 e3
  omega
theorem readB_any{w:World}{B g:Nat}{A:Option Addr}{c:Nat}{bs:List UInt8}(h:Img w B g A c bs)(no:Int):
  Calls prog 240 #[.pointer (some ⟨g,0,none⟩), .int .i64 no, .int .i64 3, .func (.func 241) #[] #[]] w (DO 3 1 ((ZV bs no).map iv) w):=by
 have h1:=Uw h no;have HT:=DY (fun n (hn:n≠0) V=>UD no n hn V);clear h;go_enter func240,ntmps240
 go_wp2_with fail
 refine h1.mono ?_;rintro e w1 ⟨A1,c1,rfl,z1,zb⟩;have z9:=DY zb;clear h1;by_cases he:Y0 bs.length no=0
 case neg=>
  have HN:=DY (OA 3 he);have k:=HT.out _ he w1;have d1:(Y0 bs.length no !=0)=true:=by rw[bne_iff_ne];exact he
  generalize Y0 bs.length no=er at*;generalize Y1 bs no=pb at*;clear he z1 zb HT;go_wp2_with fail
  refine k.mono ?_;rintro e w2 ⟨v,rfl,hv,z5⟩;have HV:=DY hv;have z3:=DY (Qb z9 z5);clear k hv z5;go_wp2;go_ret2
  exact⟨.inr ⟨by unfold ZV;rw[HN.out];rfl,v,rfl,HV.out⟩,z3.out⟩
 have hl:=OK he;have ho:=OF A1 c1 (Y1 bs no) 3 no w1 (by have:=Xy z1;rwa[Qm] at this) (Qh.of_own z1);have za:=DY (fun h2=>OB (bs:=bs) (no:=no) (k:=3) he h2);have z8:=DY (fun h2=>Rh (bs:=bs) (no:=no) (k:=3) he h2);rw[Qm,hl] at z1 ⊢;rw[hl] at ho;rw[he];clear he z1 zb hl;generalize Y1 bs no=pb at*;go_wp2_with fail
 refine ho.mono ?_;rintro e w2 ⟨A2,c2,rfl,z0,z5⟩;have z3:=DY (Qb z9 z5);clear ho z5 z9;by_cases he:ZA pb 3 no=0
 case neg=>
  have HN:=DY (za.out he);have k:=HT.out _ he w2;have d1:(ZA pb 3 no !=0)=true:=by rw[bne_iff_ne];exact he
  generalize ZA pb 3 no=er at*;generalize XM pb 3 no=q at*;clear he z0 HT za z8;go_wp2_with fail
  refine k.mono ?_;rintro e w3 ⟨v,rfl,hv,z4⟩;have HV:=DY hv;have z7:=DY (Qb z3 z4);clear k hv z4;go_wp2;go_ret2
  exact⟨.inr ⟨by unfold ZV;rw[HN.out];rfl,v,rfl,HV.out⟩,z7.out⟩
 have hl:=Ut he;have HP:=DY (z8.out he);have hr:=bread_any A2 c2 (XM pb 3 no) w2 (by rw[hl];simp[reachBytes]) (Qh.of_own z0);rw[Qm,hl] at z0 ⊢;rw[hl] at hr;rw[he];clear he z0 hl za z8;generalize XM pb 3 no=q at*;go_wp2_with fail
 refine hr.mono ?_;rintro e w3 ⟨A3,c3,rfl,z2,z4⟩;have z7:=DY (Qb z3 z4);have z6:=DY (QO z2 z3.out.size);clear hr z4 z3 z2;by_cases he:Ui q=0
 case neg=>
  have HN:=DY (show Of q=none by unfold Of;rw[if_neg he]);have k:=HT.out _ he w3;have d1:(Ui q !=0)=true:=by rw[bne_iff_ne];exact he
  generalize Ui q=er at*;generalize GV q=l at*;clear he HT z6;go_wp2_with fail
  refine k.mono ?_;rintro e w4 ⟨v,rfl,hv,zc⟩;have HV:=DY hv;have zd:=DY (Qb z7 zc);clear k hv zc;go_wp2;go_ret2
  exact⟨.inr ⟨by unfold ZV;rw[HP.out];simp[HN.out],v,rfl,HV.out⟩,zd.out⟩
 have HN:=DY (show Of q=some (GV q) by unfold Of;rw[if_pos he]);rw[he];clear he HT;generalize GV q=l at*;go_wp2;go_ret2
 refine⟨.inl ⟨iv l,A3,_,c3,by unfold ZV;rw[HP.out];simp[HN.out],rfl,?_,YI z6,z6.out⟩,z7.out⟩
 exact z6.out.1
theorem readS_any{w:World}{B g:Nat}{A:Option Addr}{c:Nat}{bs:List UInt8}(h:Img w B g A c bs)(no:Int):
  Calls prog 128 #[.pointer (some ⟨g,0,none⟩), .int .i64 no, .int .i64 4, .func (.func 129) #[] #[]] w (DO 148 3 ((Zs bs no).map tv) w):=by
 have h1:=Uw h no;have HT:=DY (fun n (hn:n≠0) V=>UD no n hn V);clear h;go_enter func128,ntmps128
 go_wp2_with fail
 refine h1.mono ?_;rintro e w1 ⟨A1,c1,rfl,z1,zb⟩;have z9:=DY zb;clear h1;by_cases he:Y0 bs.length no=0
 case neg=>
  have HN:=DY (OA 4 he);have k:=HT.out _ he w1;have d1:(Y0 bs.length no !=0)=true:=by rw[bne_iff_ne];exact he
  generalize Y0 bs.length no=er at*;generalize Y1 bs no=pb at*;clear he z1 zb HT;go_wp2_with fail
  refine k.mono ?_;rintro e w2 ⟨v,rfl,hv,z5⟩;have HV:=DY hv;have z3:=DY (Qb z9 z5);clear k hv z5;go_wp2;go_ret2
  exact⟨.inr ⟨by unfold Zs;rw[HN.out];rfl,v,rfl,HV.out⟩,z3.out⟩
 have hl:=OK he;have ho:=OF A1 c1 (Y1 bs no) 4 no w1 (by have:=Xy z1;rwa[Qm] at this) (Qh.of_own z1);have za:=DY (fun h2=>OB (bs:=bs) (no:=no) (k:=4) he h2);have z8:=DY (fun h2=>Rh (bs:=bs) (no:=no) (k:=4) he h2);rw[Qm,hl] at z1 ⊢;rw[hl] at ho;rw[he];clear he z1 zb hl;generalize Y1 bs no=pb at*;go_wp2_with fail
 refine ho.mono ?_;rintro e w2 ⟨A2,c2,rfl,z0,z5⟩;have z3:=DY (Qb z9 z5);clear ho z5 z9;by_cases he:ZA pb 4 no=0
 case neg=>
  have HN:=DY (za.out he);have k:=HT.out _ he w2;have d1:(ZA pb 4 no !=0)=true:=by rw[bne_iff_ne];exact he
  generalize ZA pb 4 no=er at*;generalize XM pb 4 no=q at*;clear he z0 HT za z8;go_wp2_with fail
  refine k.mono ?_;rintro e w3 ⟨v,rfl,hv,z4⟩;have HV:=DY hv;have z7:=DY (Qb z3 z4);clear k hv z4;go_wp2;go_ret2
  exact⟨.inr ⟨by unfold Zs;rw[HN.out];rfl,v,rfl,HV.out⟩,z7.out⟩
 have hl:=Ut he;have HP:=DY (z8.out he);have hr:=vslots_any A2 c2 (XM pb 4 no) w2 (by have:=Xy z0;rwa[Qm] at this) (by rw[hl];simp[reachBytes]) (Qh.of_own z0);rw[Qm,hl] at z0 ⊢;rw[hl] at hr;rw[he];clear he z0 hl za z8;generalize XM pb 4 no=q at*;go_wp2_with fail
 refine hr.mono ?_;rintro e w3 ⟨A3,c3,rfl,z2,z4⟩;have z7:=DY (Qb z3 z4);have z6:=DY (QO z2 z3.out.size);clear hr z4 z3 z2;by_cases he:JU q=0
 case neg=>
  have HN:=DY (show Jp q=none by unfold Jp;rw[if_neg he]);have k:=HT.out _ he w3;have d1:(JU q !=0)=true:=by rw[bne_iff_ne];exact he
  generalize JU q=er at*;generalize O6 q=l at*;clear he HT z6;go_wp2_with fail
  refine k.mono ?_;rintro e w4 ⟨v,rfl,hv,zc⟩;have HV:=DY hv;have zd:=DY (Qb z7 zc);clear k hv zc;go_wp2;go_ret2
  exact⟨.inr ⟨by unfold Zs;rw[HP.out];simp[HN.out],v,rfl,HV.out⟩,zd.out⟩
 have HN:=DY (show Jp q=some (O6 q) by unfold Jp;rw[if_pos he]);rw[he];clear he HT;generalize O6 q=l at*;go_wp2;go_ret2
 refine⟨.inl ⟨tv l,A3,_,c3,by unfold Zs;rw[HP.out];simp[HN.out],rfl,?_,YI z6,z6.out⟩,z7.out⟩
 exact z6.out.1
theorem VQ.set4{w:World}{base r:Nat}{n:QF}{A A2:Option Addr}{c c2:Nat}(h:VQ w base n A c A2 c2){cs:Array Value}(hr:w.heap[r]?=some (.cells cs 113))(x0 x1 x2 x3:Value):
  VQ ((((w.setCell ⟨r,0,none⟩ x0).setCell ⟨r,1,none⟩ x1).setCell ⟨r,2,none⟩ x2).setCell ⟨r,3,none⟩ x3) base n A c A2 c2:=by
 have hg:=ZQ w r x0 x1 x2 x3;exact⟨h.k.kept hg (.inr (Qi hr (by decide) h.k).symm),h.v.kept hg (.inr (Qi hr (by decide) h.v).symm)⟩
def nodE(tree:Int)(l:List UInt8):Int:=if XZ l=0 then(if tree≠0/\(YW l).t≠tree then 6 else 0) else XZ l
theorem node1_any(A:Option Addr)(c:Nat)(l:List UInt8)(tree:Int)(p:Addr)(w:World)(hq:l.length<=c)(hm:l.length<=reachBytes)(h:Qh w w.heap.size A (bv l))(hp:w.cell? p=some (.int .i64 tree)):
  Calls prog 101 #[.slice A l.length c, .pointer (some p)] w (Y3 (YW l) (nodE tree l) w):=by
 obtain⟨w1,zb,z6,z9⟩:=DS w (.cells #[.int .i64 0, .bool false, .slice none 0 0, .slice none 0 0] 113);have hr:=read_nodeO A c l w1 hq hm (h.ext z6);have z7:=DY z6;have zc:=DY z9;have HP:=DY (Qg z6 hp);have HE:=DY (show nodE tree l=if XZ l=0 then(if tree≠0/\(YW l).t≠tree then 6 else 0) else XZ l from rfl);clear hq hm h hp z6 z9;generalize YW l=n at*;generalize XZ l=er at*;generalize nodE tree l=en at*;go_enter func101,ntmps101
 go_upto_region 1 with fail
 rw[<-zb];clear zb;go_wp2_with fail
 refine hr.mono ?_;rintro e w2 ⟨A1,c1,A2,c2,rfl,z8,z4⟩;have za:=DY (z8.mono z7.out.size);have zf:=DY (Qb z7 z4);have zd:=Qe zc z4;have ze:=Qg z4 HP;clear hr z8 z4 z7 zc HP;have z1:=Qj zd (.cells #[.int .i64 n.t, .bool n.leaf, .slice A1 n.keys.length c1, .slice A2 n.vals.length c2] 113);obtain⟨q0,q1,q2,q3⟩:=DW z1;have f0:=Qf z1 0;have f1:=Qf z1 1;have f2:=Qf z1 2;have f3:=Qf z1 3;have hp3:=Qg (Qd w2 (.cells #[.int .i64 n.t, .bool n.leaf, .slice A1 n.keys.length c1, .slice A2 n.vals.length c2] 113)) ze;have z5:=DY (Qb zf (Qd w2 (.cells #[.int .i64 n.t, .bool n.leaf, .slice A1 n.keys.length c1, .slice A2 n.vals.length c2] 113)));have z0:=DY (za.out.keep (Qd w2 (.cells #[.int .i64 n.t, .bool n.leaf, .slice A1 n.keys.length c1, .slice A2 n.vals.length c2] 113)));have z3:=DY z1;have HN:=DY (show∃t lf,n.t=t/\n.leaf=lf from⟨_,_,rfl,rfl⟩);clear za zf zd z1 ze;by_cases he:er=0
 ·subst he;by_cases ht:tree=0
  ·have z2:=DY (show en=0 by rw[HE.out,if_pos rfl,if_neg (by rw[ht];simp)]);subst ht;go_wp2;refine bodyPost_ret (v:= .tuple #[.agg #[.int .i64 n.t, .bool n.leaf, .slice A1 n.keys.length c1, .slice A2 n.vals.length c2], .int .i64 0]) (by rw[results_cell_tmp rfl];go_simp) rfl ?_;exact⟨A1,c1,A2,c2,by rw[z2.out],z0.out.set4 z3 _ _ _ _,Zf z5 _ _ _ _⟩
  ·by_cases hx:n.t=tree
   ·have z2:=Lib.hid (show en=0 by rw[HE.out,if_pos rfl,if_neg (by rw[hx];simp)]);have d1:(tree !=0)=true:=by rw[bne_iff_ne];exact ht
    have d2:(n.t !=tree)=false:=by rw[hx];simp
    clear hx ht;go_wp2;refine bodyPost_ret (v:= .tuple #[.agg #[.int .i64 n.t, .bool n.leaf, .slice A1 n.keys.length c1, .slice A2 n.vals.length c2], .int .i64 0]) (by rw[results_cell_tmp rfl];go_simp) rfl ?_;exact⟨A1,c1,A2,c2,by rw[z2.out],z0.out.set4 z3 _ _ _ _,Zf z5 _ _ _ _⟩
   ·have z2:=Lib.hid (show en=6 by rw[HE.out,if_pos rfl,if_pos ⟨ht,hx⟩]);have d1:(tree !=0)=true:=by rw[bne_iff_ne];exact ht
    have d2:(n.t !=tree)=true:=by rw[bne_iff_ne];exact hx
    clear hx ht;go_wp2;refine bodyPost_ret (v:= .tuple #[.agg #[.int .i64 n.t, .bool n.leaf, .slice A1 n.keys.length c1, .slice A2 n.vals.length c2], .int .i64 6]) (by rw[results_cell_tmp rfl];go_simp) rfl ?_;exact⟨A1,c1,A2,c2,by rw[z2.out],z0.out.set4 z3 _ _ _ _,Zf z5 _ _ _ _⟩
 ·have z2:=DY (show en=er by rw[HE.out,if_neg he]);have d1:(er==0)=false:=by rw[beq_eq_false_iff_ne];exact he
  clear he;go_wp2;refine bodyPost_ret (v:= .tuple #[.agg #[.int .i64 n.t, .bool n.leaf, .slice A1 n.keys.length c1, .slice A2 n.vals.length c2], .int .i64 er]) (by rw[results_cell_tmp rfl];go_simp) rfl ?_;exact⟨A1,c1,A2,c2,by rw[z2.out],z0.out.set4 z3 _ _ _ _,Zf z5 _ _ _ _⟩
section
open Go.RowKit Go.Shelf
attribute [local go_sem] Oper.semAt_some
def prX(D T:List Qv)(i j:Nat):Bool:=decide (i<D.length)&&(decide (T.length<=j)||decide (Zr D i<=Zr T j))
def Q8(D T:List Qv):Nat->Nat->Nat->List (Option Nat×Option Nat)
 |0,_,_=>[]
 |f+1,i,j=>if i<D.length∨j<T.length then
   (if prX D T i j=true then some i else none,if prX T D j i=true then some j else none)::
    Q8 D T f (if prX D T i j=true then i+1 else i) (if prX T D j i=true then j+1 else j)
  else []
theorem pairsGo_end(D T:List Qv)(f i j:Nat)(h1:¬i<D.length)(h2:¬j<T.length):Q8 D T f i j=[]:=by
 cases f with
 |zero=>rfl
 |succ f=>
  unfold Q8;rw[if_neg (by omega)]
structure QS(b1 b2:Nat)(A B:World):Prop where
 os:B.os=A.os
 tape:B.tape=A.tape
 output:B.output=A.output
 size:A.heap.size<=B.heap.size
 block:∀k,k<A.heap.size->k≠b1->k≠b2->B.heap[k]?=A.heap[k]?
theorem QS.refl(b1 b2:Nat)(A:World):QS b1 b2 A A:=⟨rfl,rfl,rfl,Na _,fun _ _ _ _=>rfl⟩
theorem QS.trans{b1 b2:Nat}{A B C:World}(h:QS b1 b2 A B)(k:QS b1 b2 B C):QS b1 b2 A C:=
 ⟨k.os.trans h.os,k.tape.trans h.tape,k.output.trans h.output,D3 h.size k.size,fun j hj h1 h2=>(k.block j (Nh hj h.size) h1 h2).trans (h.block j hj h1 h2)⟩
theorem QS.of_grown1{b1 b2:Nat}{A B:World}(h:A.grownBy B (some b1)):QS b1 b2 A B:=⟨h.os,h.tape,h.output,h.size,fun k hk h1 _=>h.block k hk (fun e=>h1 (Nd e))⟩
theorem QS.of_grown2{b1 b2:Nat}{A B:World}(h:A.grownBy B (some b2)):QS b1 b2 A B:=⟨h.os,h.tape,h.output,h.size,fun k hk _ h1=>h.block k hk (fun e=>h1 (Nd e))⟩
theorem QS.of_below{b1 b2:Nat}{A B:World}(h:Below A.heap.size A B):QS b1 b2 A B:=⟨h.os,h.tape,h.output,h.size,fun k hk _ _=>h.block k hk⟩
theorem QS.others{b1 b2:Nat}{A B:World}(h:QS b1 b2 A B)(h1:∀o,A.heap[b1]?=some o->o.isCells=true)(h2:∀o,A.heap[b2]?=some o->o.isCells=true):KeepsOthers A B:=
 ⟨h.size,fun k o hk ho=>(h.block k (D0.1 hk).1 (fun e=>by subst e;rw[h1 o hk] at ho;cases ho) (fun e=>by subst e;rw[h2 o hk] at ho;cases ho)).trans hk⟩
def VT(W:World)(b:Nat)(l:List Qv)(ab ao:Nat)(i:Nat):Prop:=
 i<=l.length/\∃A c,W.heap[b]?=some (.cells #[.slice A (l.length-i) c] 137)/\(i<l.length->A=some ⟨ab,ao+i*3,none⟩)/\l.length-i<=c
theorem VT.same{W W':World}{b:Nat}{l:List Qv}{ab ao i:Nat}(h:VT W b l ab ao i)(e:W'.heap[b]?=W.heap[b]?):VT W' b l ab ao i:=by
 obtain⟨h0,A,c,h1,h2⟩:=h;exact⟨h0,A,c,e.trans h1,h2⟩
def slLen:Option Value->Nat
 |some (.slice _ n _)=>n
 |_=>0
theorem VT.len{W:World}{b:Nat}{l:List Qv}{ab ao i:Nat}(h:VT W b l ab ao i):slLen (W.cell? ⟨b,0,none⟩)=l.length-i:=by
 obtain⟨h0,A,c,h1,h2⟩:=h;rw[Qa h1 0 rfl]
 rfl
def Oi(W:World)(n₀ ab ao:Nat)(l:List Qv):Prop:=ab<n₀/\∀(j:Nat) x,l[j]?=some x->W.cell? ⟨ab,ao+j*3,none⟩=some (.int .i64 x.key)
def Vx(b o:Nat):Option Nat->Value
 |some i=> .pointer (some ⟨b,o+i*3,none⟩)
 |none=> .pointer none
theorem Yd(D T:List Qv)(k i j:Nat)(hk:k<D.length+T.length)(h:i<D.length∨j<T.length):Q8 D T (D.length+T.length-k) i j=
  (if prX D T i j=true then some i else none,if prX T D j i=true then some j else none)::Q8 D T (D.length+T.length-(k+1)) (if prX D T i j=true then i+1 else i) (if prX T D j i=true then j+1 else j):=by
 rw[show D.length+T.length-k=(D.length+T.length-(k+1))+1 by omega]
 conv=>lhs;unfold Q8
 rw[if_pos h]
theorem JO{α:Type}(a b:List α){k:Nat}(h:a.length=k):(a++b).take k=a:=by subst h;simp
theorem XA{n₀ b1 b2:Nat}{W A B:World}(h:Below n₀ W A)(k:QS b1 b2 A B)(h1:n₀<=b1)(h2:n₀<=b2)(h3:n₀<=W.heap.size):Below n₀ W B:=
 h.trans ⟨k.os,k.tape,k.output,k.size,fun i hi=>k.block i (Nh hi (D3 h3 h.size)) (by omega) (by omega)⟩
end
end Go.Proofs.YtijcgllddnpmhaaGreatDoor
