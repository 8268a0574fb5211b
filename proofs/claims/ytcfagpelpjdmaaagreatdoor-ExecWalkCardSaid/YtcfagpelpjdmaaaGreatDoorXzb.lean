import Derived.Test.YtcfagpelpjdmaaaGreatDoorXz
namespace Go.Proofs.S25
open Go Go.AV
open Go.IntKind renaming i64 -> j6
open Go.AV.Shape (leaf)
noncomputable section
variable {m:Mem} (l:List aF) (p:aj) (b:Int) (s:ah) (t:aF) (i:aP) (e:Ev) (id:Int) (a:Int) (n:Nat) (k:Nat)
def zud:AV:= .bN cz 0 λi=>aB (([]:List cg).getD i aD)
def sM:AV:= .mc aM (.agg [aK s.af,ao s.mem,zud])
def acm:AV:= .mc aM (.agg [.own 0 s.af.length,ao s.mem,zud])
def an5:aw:= .cell 41 aM (.agg [aK s.af,ao s.mem,zud])
def aou (fn arg:Int) (k:Nat):Option Inv:=match Nat.beq k 8 with
 |true=>iw s.af.length (λi=>⟨[(3,co id),(8, .ptr 8 []),(12, .ptr 12 []),(16, .ptr 16 []),(18,co i)],[(8,an5 s),(12,fJ aE),(16, .cell 86 zk (aq (bf p b id fn arg).1))]⟩) λi=>(aV s.af id<0/\(bf p b id fn arg).2=0)/\∀ j,j<i ->(s.af.getD j au).id<id
 |false=>none
theorem ajn:∀ (i:Nat),i<=l.length ->(∀ j,j<i ->(l.getD j au).id<id) ->(i<l.length ->¬ (l.getD i au).id<id) ->iD l id=i:=by
 unfold iD;induction l with
 |nil=>intro i e _ _;have :i=0:=by simpa using e
       simp_all
 |cons t l k=>
  intro i e f m;cases i with
  |zero=>
   simp_all
  |succ i=>
   have o:t.id<id:=f 0 ac;rw[List.takeWhile_cons_of_pos (by simpa using o),yz,k i (by simpa using e) (λj r=>f (j+1) ac) λh=>m (by simpa using h)]
theorem zN:iD l id<=l.length:=(List.takeWhile_sublist _).length_le
theorem z9q (e:k<=l.length):(iu l t k).length=l.length+1:=by grind[iu]
theorem z9r (e:k<=l.length) (j:Nat):(iu l t k).getD j au=if j<k then l.getD j au else if j=k then t else l.getD (j - 1) au:=by
 unfold iu;have hl:(l.take k).length=k:=by grind
 simp;split
 . rw[ye ac,y8 ac]
 . rw[y9 ac,hl];split
   . grind
   . obtain⟨d,rfl⟩:∃ d,j=k+(d+1):=⟨j - k - 1,ac⟩;grind
theorem zue (i j:Nat) (z:AV) (k:i<=l.length):(if i+1<=j/\j<i+1+(l.length - i)then aq (l.getD (i+(j - (i+1))) au)else if j=i then aq t else if j<i then aq (l.getD j au)else z)=if j<l.length+1 then aq ((iu l t i).getD j au)else z:=by
 rw[z9r _ _ _ k];by_cases e:j<i
 . rw[x8 ac,x8 ac,x9 e,x9 ac,x9 e]
 . by_cases f:j=i
   . rw[x8 ac,x9 f,x9 ac,x8 e,x9 f]
   . by_cases h:j<l.length+1
     . rw[x9 ac,x9 h,x8 e,x8 f,show i+(j - (i+1))=j - 1 from ac]
     . rw[x8 ac,x8 f,x8 e,x8 h]
section
variable (s:ah) (id:Int)
def qrj:=decide (0<=aV (dR dT (aK s.af)) id)
end
section
variable (p:aj) (b:Int) (s:ah) (id:Int) (fn:Int) (arg:Int)
def SF:Nat:=(fk p b s id fn arg).fst.af.length
def Vs:=SF p b s id fn arg=0
def LK:=((Vs p b s id fn arg/\((fk p b s id fn arg).fst.mem.vars.length=0/\(fk p b s id fn arg).fst.mem.ae.length=0/\(fk p b s id fn arg).fst.mem.aa.length=0/\(fk p b s id fn arg).fst.mem.sig.length=0)/\RR 0)/\30=(fk p b s id fn arg).snd)/\Vs p b s id fn arg
def NN:=(bf (dP (ak p)) b id fn arg).snd !=0
variable (x6:Nat)
def qrk:=x6<=s.af.length/\(aV s.af id<0/\(bf p b id fn arg).snd=0)/\∀ j:Nat,j<x6->(s.af.getD j au).id<id
def Kd:=RR (AV.bN cz 0 λi=>aB ([].getD i aD))
def Ho:=LT (aK s.af)/\LT (ao s.mem)/\Kd
variable (x1:Nat)
def qrl:=qc s x1=true
def vX:=qrl s x1->qrl s x1
variable (x2:Nat)
def Kv:=qc s x2&&decide ((s.af.getD (↑x2:Int).toNat au).id<id)
def Bb:Int:=↑s.af.length+1
def FQ:=(↑x1:Int)<=(↑s.af.length:Int)
def zS:Nat:=(Bb s).toNat
def Xs:Int:=↑(zS s)
variable (x0:Nat)
def Pp:Nat:=(q9 x0).toNat
def Ht:Nat:=(Xs s - q9 x1).toNat
def Mg:=zS s=SF p b s id fn arg
end
theorem am6 (fn arg:Int) (m:bG p) (hs:cK s) (f:id<=9223372036854775807):KF 117 [vP p,co b,sM s,co id,co fn,co arg] (.ax [acm (fk p b s id fn arg).1,co (fk p b s id fn arg).2]) [fy (fk p b s id fn arg).1.af]:=by
 refine pK (rl 85 (aou p b s id fn arg)) Tryz.func117 (KN 119 [aK s.af,co id] (AV.ax [co (max (aV (dR dT (aK s.af)) id) (0:Int)),AV.bool (qrj s id)])/\(qrj s id=true->LK p b s id fn arg)/\(qrj s id=false->KN 121 [AV.mc z7 (ak p),co b,co id,co fn,co arg] (AV.ax [AV.mc zk (aq (bf (dP (ak p)) b id fn arg).fst),co (bf (dP (ak p)) b id fn arg).snd])/\(NN p b id fn arg=true->LK p b s id fn arg)/\(NN p b id fn arg=false->(∃ (i:Nat),qrk p b s id fn arg i/\(RR id/\(0:Int)=(↑i:Int))/\Ho s/\((0:Nat)=(0:Nat)/\((0:Nat)=(0:Nat)/\(0:Nat)=(0:Nat)/\(0:Nat)=(0:Nat)/\(0:Nat)=(0:Nat))/\(0:Nat)=(0:Nat))/\LS (aq (Prod.fst (bf (dP (ak p)) b id fn arg))) (aq (Prod.fst (bf p b id fn arg))))/\∀ i:Nat,qrk p b s id fn arg i->oh s/\vX s i/\vX s i/\vX s i/\(qrl s i->ai (↑i) s.af.length)/\vX s i/\vX s i/\vX s i/\vX s i/\vX s i/\(Kv s id i=true->qa i/\(∃ j,qrk p b s id fn arg j/\s.af.length - j<s.af.length - i/\(RR id/\q9 i=↑j)/\Ho s/\(LT (aK [])/\(LT (ab [])/\LT (ab [])/\LT (aJ [])/\LT (ab []))/\LT (bc []))/\LT (aq (bf p b id fn arg).fst)))/\(Kv s id i=false->oh s/\aU j6 (Bb s)/\(0<=Bb s/\Bb s<=Bb s/\↑(152:Nat)*Bb s<=(140737488355328:Int)/\Bb s<=9223372036854775807)/\((0:Int)<=(0:Int)/\(0:Int)<=↑i/\FQ s i)/\(zS s<=zS s/\Xs s<=9223372036854775807)/\ai (↑i) (zS s)/\(↑i:Int).toNat<zS s/\qa i/\(0<=q9 i/\q9 i<=Xs s/\Xs s<=Xs s)/\((0:Int)<=↑i/\FQ s i/\(↑s.af.length:Int)<=(↑s.af.length:Int))/\(Pp i+Ht s i<=zS s/\↑(Ht s i)<=(9223372036854775807:Int))/\((Mg p b s id fn arg/\LS (ao s.mem) (ao (fk p b s id fn arg).fst.mem)/\Kd)/\0=(fk p b s id fn arg).snd)/\Mg p b s id fn arg/\∀ (ar:Nat),ar<zS s->(if((↑i:Int)+1).toNat<=ar/\ar<((↑i:Int)+1).toNat+min ((↑s.af.length:Int) - (↑i:Int)).toNat ((↑((↑s.af.length:Int)+1).toNat:Int) - ((↑i:Int)+1)).toNat then aq (s.af.getD ((↑i:Int).toNat+(ar - Pp i)) au)else if ar=(↑i:Int).toNat then aq (bf p b id fn arg).fst else if ar<min ((↑i:Int) - 0).toNat ((↑s.af.length:Int)+1).toNat then aq (s.af.getD (Int.toNat 0+ar) au)else AV.agg [co 0,co 0,co 0,AV.arr 8 λx=>co 0,co 0,co 0,co 0,co 0,co 0,AV.aA])=aq ((fk p b s id fn arg).fst.af.getD ar au))))) ?_;try delta qrj SF Vs LK NN qrk Kd Ho oh qc qrl vX q9 qa Kv Bb FQ zS Xs Pp Ht Mg
 simp only[SZ];simp only[pq hs.r8];have h1:=hs.af;refine⟨XA _ _ h1 hs.r8,λh=>?_,λh=>⟨aaz p b id fn arg m f,λh2=>?_,λh2=>⟨⟨0,⟨ac,⟨ac,h2⟩,λj hj=>ac⟩,rfl⟩,λi hi=>⟨ac,λhc=>⟨dl,i+1,⟨ac,⟨ac,h2⟩,λj hj=>?_⟩,ac,ac⟩,λhc=>?_⟩⟩⟩⟩
 . have e:fk p b s id fn arg=(aE,30):=by unfold fk;rw[x9 h]
   rw[e];exact⟨⟨⟨rfl,dD⟩,rfl⟩,rfl⟩
 . have e:fk p b s id fn arg=(aE,30):=by unfold fk;rw[x8 h,x9 h2]
   rw[e];exact⟨⟨⟨rfl,dD⟩,rfl⟩,rfl⟩
 . by_cases e:j=i
   . subst e;exact hc.2
   . exact hi.2.2 j ac
 . have e:fk p b s id fn arg=({s with af:=iu s.af (bf p b id fn arg).1 (iD s.af id)},0):=by unfold fk;rw[x8 h,x8 (by simp[h2])]
   have hat:iD s.af id=i:=ajn _ _ _ hi.1 hi.2.2 λhlt=>ac;have hl:=z9q s.af (bf p b id fn arg).1 i hi.1;have n1:((s.af.length:Int)+1).toNat=s.af.length+1:=ac;have n2:((i:Int)+1).toNat=i+1:=ac;have n3:min ((s.af.length:Int) - (i:Int)).toNat (((s.af.length+1:Nat):Int) - ((i:Int)+1)).toNat=s.af.length - i:=ac;have k:min i (s.af.length+1)=i:=ac;rw[e,hat];simp only[n1,n2,n3,k];refine⟨ac,dl,⟨ac,ac,ac,ac⟩,⟨ac,hi.1⟩,ac,ac,ac,dl,ey,hi.1,ey,⟨⟨hl.symm,⟨trivial,λ_ _=>trivial⟩,⟨trivial,λ_ _=>trivial⟩,⟨trivial,λ_ _=>trivial⟩,trivial,λ_ _=>trivial⟩,trivial⟩,hl.symm,λj hj=>by rw[zue _ _ _ _ _ hi.1,x9 hj]⟩
abbrev jM:Prop:=∀ (m:Mem) (c id:Int),dN m ->KN 197 [vM m,co c,co id] (.ax [vM (b9 m c id).1,co (b9 m c id).2])
theorem zhr:dN eg/\(allI eg).length<=n:=⟨⟨ap,ap,ap,ap,ap⟩,xp _⟩
theorem zd6 (e:dN m) (i id fr f:Int):dN (bm m i id fr f).1/\(allI (bm m i id fr f).1).length<=(allI m).length:=by
 unfold bm;split
 . exact zhr _
 . split
   . exact zhr _
   . split
     . exact zhr _
     . exact⟨⟨e.vars,by simpa using e.ae,e.aa,e.sig,e.all⟩,xm _⟩
section
variable (m:Mem) (e:Ev)
def Li:=KN 185 [AV.mc zm (ao m),co e.obj,co e.wrote] (AV.ax [AV.mc zm (ao (zr (dM (ao m)) e.obj e.wrote).fst),co (zr (dM (ao m)) e.obj e.wrote).snd])
end
section
variable (m:Mem) (t:aF) (i:aP) (e:Ev)
def qrm:=LS (ao (zr (dM (ao m)) e.obj e.wrote).fst) (ao (du m t i e).fst)
def qj2:Int:=(du m t i e).snd.fst
def QU:=1=qj2 m t i e
def vm:Int:=(du m t i e).snd.snd
def qrn:=(zr (dM (ao m)) e.obj e.wrote).snd=vm m t i e
def Vh:=e.read=qj2 m t i e
def uy:=0=qj2 m t i e
def qro:=LS (ao m) (ao (du m t i e).fst)
def qrp:=0=vm m t i e
def MO:=qro m t i e/\Vh m t i e/\qrp m t i e
def Oy:=(e.kind==1)=true
def Im:=qro m t i e/\uy m t i e/\qrp m t i e
def KT:List AV:=[co e.obj,co t.id]
def WE:List AV:=AV.mc zm (ao m)::KT t e
def Wa:Mem×Int:=bm (dM (ao m)) e.obj t.id (-1) t.id
def Mf:=ao (Wa m t e).fst
def Vd:Int:=(Wa m t e).snd
def L7:=KN 195 (WE m t e) (AV.ax [AV.mc zm (Mf m t e),co (Vd m t e)])
def IE:=LS (Mf m t e) (ao (du m t i e).fst)
def MQ:=Vd m t e=vm m t i e
def CH:Mem×Int:=bm (dM (ao m)) e.obj t.id t.id (-1)
def Ld:=ao (CH m t e).fst
def Sc:Int:=(CH m t e).snd
def Oh:Mem×Int:=bm (dM (ao m)) e.mutex t.id t.id (-1)
def qrq:=ao (Oh m t e).fst
def Ra:=AV.mc zm (qrq m t e)
def qrr:Int:=(Oh m t e).snd
def OR:Mem×Int:=b9 (dM (qrq m t e)) e.obj t.id
def Fi:=ao (OR m t e).fst
def Jk:Int:=(OR m t e).snd
def T0:=qrr m t e==0
def Yr:List AV:=[AV.mc zm (ao m),co e.obj]
def Yi:=ao (zi (dM (ao m)) e.obj 1).fst
def qj3:Int×Int:=(zi (dM (ao m)) e.obj 1).snd
def qel:Int:=(qj3 m e).snd
def qrs:Mem×Int×Int:=zi (dM (ao m)) e.obj (eZ (dR (dR dI) (aJ m.aa)))
def WW:=ao (qrs m e).fst
def qj4:Int×Int:=(qrs m e).snd
def WN:Int:=(qj4 m e).snd
def Tj:=((e.kind==11)=true->((e.read==0)=true->Im m t i e)/\((e.read==0)=false->L7 m t e/\IE m t i e/\QU m t i e/\MQ m t i e))/\((e.kind==11)=false->((e.kind==9)=true->L7 m t e/\IE m t i e/\uy m t i e/\MQ m t i e)/\((e.kind==9)=false->((e.kind==10)=true->KN 196 (WE m t e) (AV.ax [AV.mc zm (Ld m t e),co (Sc m t e)])/\LS (Ld m t e) (ao (du m t i e).fst)/\uy m t i e/\Sc m t e=vm m t i e)/\((e.kind==10)=false->((e.kind==12)=true->KN 196 [AV.mc zm (ao m),co e.mutex,co t.id] (AV.ax [Ra m t e,co (qrr m t e)])/\(T0 m t e=true->KN 197 (Ra m t e::KT t e) (AV.ax [AV.mc zm (Fi m t e),co (Jk m t e)])/\LS (Fi m t e) (ao (du m t i e).fst)/\uy m t i e/\Jk m t e=vm m t i e)/\(T0 m t e=false->LS (qrq m t e) (ao (du m t i e).fst)/\uy m t i e/\qrr m t e=vm m t i e))/\((e.kind==12)=false->((e.kind==13)=true->KN 198 [AV.mc zm (ao m),co t.id] (AV.ax [AV.mc zm (ao (eh (dM (ao m)) t.id).fst),co (eh (dM (ao m)) t.id).snd])/\LS (ao (eh (dM (ao m)) t.id).fst) (ao (du m t i e).fst)/\uy m t i e/\(eh (dM (ao m)) t.id).snd=vm m t i e)/\((e.kind==13)=false->((e.kind==14)=true->KN 199 (Yr m e) (AV.ax [AV.mc zm (Yi m e),co (qj3 m e).fst,co (qel m e)])/\LS (Yi m e) (ao (du m t i e).fst)/\uy m t i e/\qel m e=vm m t i e)/\((e.kind==14)=false->((e.kind==15)=true->KN 200 (Yr m e) (AV.ax [AV.mc zm (WW m e),co (qj4 m e).fst,co (WN m e)])/\LS (WW m e) (ao (du m t i e).fst)/\uy m t i e/\WN m e=vm m t i e)/\((e.kind==15)=false->((e.kind==16)=true->qro m t i e/\e.obj=qj2 m t i e/\qrp m t i e)/\((e.kind==16)=false->Im m t i e))))))))
def VI:=(e.kind==1)=false
end
theorem aft (m:Mem) (t:aF) (i:aP) (e:Ev) (f:dN m) (j:jM):KN 115 [vM m,vT t,vI i,dg e] (.ax [vM (du m t i e).1, .int .i64 (du m t i e).2.1, .int .i64 (du m t i e).2.2]):=by
 refine Kn (rl 132 λ_=>none) Tryz.func115 (((e.kind==5)=true->Li m e/\((i.op==12)=true->qrm m t i e/\QU m t i e/\qrn m t i e)/\((i.op==12)=false->qrm m t i e/\Vh m t i e/\qrn m t i e))/\((e.kind==5)=false->((e.kind==2)=true->Li m e/\qrm m t i e/\uy m t i e/\qrn m t i e)/\((e.kind==2)=false->(Oy e->(Oy e->MO m t i e)/\(VI e->Tj m t i e))/\(VI e->((e.kind==8)=true->MO m t i e)/\((e.kind==8)=false->Tj m t i e))))) ?_;try delta Li qrm qj2 QU vm qrn Vh uy qro qrp MO Oy Im KT WE Wa Mf Vd L7 IE MQ CH Ld Sc Oh qrq Ra qrr OR Fi Jk T0 Yr Yi qj3 qel qrs WW qj4 WN Tj VI
 simp only[SZ];have L:∀ {x:Mem} {u v:Int},du m t i e=(x,u,v) ->LS (ao x) (ao (du m t i e).1)/\u=(du m t i e).2.1/\v=(du m t i e).2.2:=λh=>by rw[h];exact⟨eE rfl,rfl,rfl⟩
 refine⟨λh5=>⟨zjb _ _ _ f,λh=>L ?_,λh=>L ?_⟩,λh5=>⟨λh2=>⟨zjb _ _ _ f,L ?_⟩,λh2=>⟨λh1=>⟨λ_=>L ?_, ?_⟩,λh1=>⟨λh8=>L ?_,λh8=>⟨λh11=>⟨λh=>L ?_,λh=>⟨aaw _ _ _ f,L ?_⟩⟩,λh11=>⟨λh9=>⟨aaw _ _ _ f,L ?_⟩,λh9=>⟨λh10=>⟨abb _ _ _ f,L ?_⟩,λh10=>⟨λh12=>⟨abb _ _ _ f,λh=>⟨j _ _ _ (zd6 f _ _ _ _).1,L ?_⟩,λh=>L ?_⟩,λh12=>⟨λh13=>⟨am4 _ _ f,L ?_⟩,λh13=>⟨λh14=>⟨agj _ _ f,L ?_⟩,λh14=>⟨λh15=>⟨agh _ _ f,L ?_⟩,λh15=>⟨λh16=>L ?_,λh16=>L ?_⟩⟩⟩⟩⟩⟩⟩⟩⟩⟩⟩⟩;rotate_left 4
 . omega
 all_goals clear L j f
 all_goals simp[du, *]
theorem zm1 (l:List aF) (id:Int):∀ n,n<=l.length ->0<=fm l id n ->(fm l id n).toNat<l.length/\(l.getD (fm l id n).toNat au).id=id
 |0,_,h=>absurd (show(0:Int)<= -1 from h) ap
 |n+1,f,h=>by
  unfold fm at h ⊢;split at h
  . rename_i e;rw[x9 e,j7];exact⟨ac,e⟩
  . rename_i e;rw[x8 e];exact zm1 l id n ac h
theorem pT {l:List aF} {id:Int} (h:0<=aV l id):(aV l id).toNat<l.length/\(l.getD (aV l id).toNat au).id=id:=zm1 l id _ (xm _) h
theorem zrb (l:List aF) (id:Int) (k:Nat) (j:k<l.length) (e:(l.getD k au).id=id):∀ n,n<=l.length ->l.length - n<=k ->0<=fm l id n
 |0,_,h=>ac
 |n+1,m,h=>by
  unfold fm;split
  . omega
  . rename_i i;refine zrb l id k j e n ac ?_;rcases jt k (l.length - n)with f |f
    . have :k=l.length - (n+1):=ac;grind
    . exact f
theorem zm2 {l:List aF} {id:Int} {k:Nat} (f:k<l.length) (e:(l.getD k au).id=id):0<=aV l id:=zrb l _ k f e _ (xm _) (ac)
theorem zrc {l:List aF} {id:Int} (t:aF) {n:Nat} (e:n<=l.length) (h:0<=aV l id):0<=aV (iu l t n) id:=by
 have⟨j,f⟩:=pT h;have hl:=z9q l t n e;by_cases i:(aV l id).toNat<n
 . exact zm2 (k:=(aV l id).toNat) ac (by rw[z9r _ _ _ e,x9 i];exact f)
 . exact zm2 (k:=(aV l id).toNat+1) ac (by rw[z9r _ _ _ e,x8 ac,x8 ac,Nat.add_sub_cancel];exact f)
theorem zm3 (l:List (List Int)):∀ (i:Nat) (v:List Int),i<l.length ->(l.set i v).flatten.length+(l.getD i []).length=l.flatten.length+v.length:=by
 induction l with
 |nil=>intro i v h;simp at h
 |cons x l e=>
  intro i v h;cases i with
  |zero=>simp;omega
  |succ i=>
   have :=e i v (by simpa using h);simp only[List.set_cons_succ,List.flatten_cons,xl,List.getD_cons_succ];omega
theorem z7v (m:Mem):(allI m).length=m.sig.length+m.aa.flatten.length:=by unfold allI;rw[xl]
def tS (m m':Mem):Prop:=dN m'/\(allI m').length<=(allI m).length+1
theorem Ba (m:Mem):tS m eg:=⟨(zhr 0).1,(zhr _).2⟩
theorem zhs (e:dN m) (x v:Int):tS m (zr m x v).1:=by
 unfold zr;split
 . exact Ba m
 . split
   . exact Ba m
   . exact⟨⟨by simpa using e.vars,e.ae,e.aa,e.sig,e.all⟩,Nat.le_succ _⟩
theorem aj9 (f:dN m) (i id fr e:Int):tS m (bm m i id fr e).1:=⟨(zd6 f i id fr e).1,Nat.le_succ_of_le (zd6 f i id fr e).2⟩
theorem ahh (e:dN m) (h:(allI m).length<400000) (c id:Int):tS m (b9 m c id).1:=by
 unfold b9;split
 . exact Ba m
 . rename_i f;split
   . exact Ba m
   . split
     . exact Ba m
     . have k:=ma (yk.1 f);have j:=zm3 m.aa c.toNat (m.aa.getD c.toNat []++[id]) ac;have o:=z7v m;have i:=z7v {m with aa:=m.aa.set c.toNat (m.aa.getD c.toNat []++[id])};simp only[xl,yz,List.length_nil]at j i;suffices h:tS m {m with aa:=m.aa.set c.toNat (m.aa.getD c.toNat []++[id])}from h;exact⟨⟨e.vars,e.ae,by simpa using e.aa,e.sig,ac⟩,ac⟩
theorem zuf (e:dN m) (id:Int):tS m (eh m id).1:=by
 unfold eh;split
 . exact Ba m
 . split
   . exact Ba m
   . have k:(dt m.sig id).length<=m.sig.length:=zj5 _ _;have j:=e.all;have i:=z7v m;have f:=z7v {m with sig:=dt m.sig id};simp only at f;suffices h:tS m {m with sig:=dt m.sig id}from h;exact⟨⟨e.vars,e.ae,e.aa,by show(dt m.sig id).length<=_;omega,ac⟩,ac⟩
theorem zrd (e:dN m) (c n:Int):tS m (zi m c n).1:=by
 unfold zi;split
 . exact Ba m
 . rename_i i;have r:=ma (yk.1 i);generalize (min n ((m.aa.getD c.toNat []).length:Int)).toNat=k;have o:=zle ((m.aa.getD c.toNat []).take k) m.sig;have j:=zm3 m.aa c.toNat ((m.aa.getD c.toNat []).drop k) ac;have u:=z7v m;have f:=z7v (A7 m c.toNat k);have s:=e.all;unfold A7 at f ⊢;simp only[xu,ws]at o j f;suffices h:tS m {m with sig:=((m.aa.getD c.toNat []).take k).foldl cu m.sig,aa:=m.aa.set c.toNat ((m.aa.getD c.toNat []).drop k)}from h;refine⟨⟨e.vars,e.ae,by simpa using e.aa, ?_,ac⟩,ac⟩;show(((m.aa.getD c.toNat []).take k).foldl cu m.sig).length<=_;omega
theorem zre (f:dN m) (h:(allI m).length<400000) (t:aF) (i:aP) (e:Ev):tS m (du m t i e).1:=by
 have refl:tS m m:=⟨f,Nat.le_succ _⟩;unfold du;repeat' split
 all_goals first
  |exact refl
  |exact zhs f _ _
  |exact aj9 f _ _ _ _
  |exact zuf f _
  |exact zrd f _ _
  |skip
 have j:=zd6 f e.mutex t.id t.id (-1);have :=ahh j.1 ac e.obj t.id;exact⟨this.1,y6 this.2 ac⟩
theorem zug:(bJ s t i e).kind≠16:=by
 unfold bJ;simp only;repeat' split
 all_goals simp
theorem zrf:(jz t i e).kind≠16:=by
 unfold jz;repeat' split
 all_goals simp
theorem z9s {s:ah} {t:aF} {i:aP} (h:(aT s t i).kind=16):i.op=21/\(aT s t i).obj=fZ t:=by
 by_cases e:i.op=21
 . exact⟨e,by simp[aT,e]⟩
 . exfalso;grind[aT,zrf,zug]
theorem z9t:fZ t<=1000000:=by
 unfold fZ;split
 . rename_i h;unfold cV at h;simp at h;have :=yO (id:=t.id) ac;omega
 . decide
theorem zji {p:aj} {b id fn arg:Int} (f:bG p) (e:id<=9223372036854775807):eL (bf p b id fn arg).1:=by
 unfold bf;split
 . exact sV
 . rename_i h;split
   . exact sV
   . split
     . exact sV
     . rename_i i;split
       . exact sV
       . exact(zjc ⟨f,(mF (yk.1 h)).1⟩ (zfj e ac)).ok
theorem zm4 {p:aj} {b:Int} {t:aF} {r:Int} (i:bG p) (f:eL t):eL (cy p b t r).1:=by
 unfold cy;split
 . exact sV
 . rename_i h;split
   . exact sV
   . rename_i e;split
     . exact sV
     . rename_i hs;split
       . exact sV
       . have P:kP p:=⟨i,(mF (yk.1 h)).1⟩;exact(zjc P (zj7 P f (by simpa using e) (yk.1 hs) r)).ok
theorem zjj {l:List aF} {t:aF} {k:Nat} (f:k<=l.length) (h:∀ j,eL (l.getD j au)) (e:eL t) (j:Nat):eL ((iu l t k).getD j au):=by
 rw[z9r _ _ _ f];split
 . exact h j
 . split
   . exact e
   . exact h _
theorem zfy {l:List aF} {t:aF} {k:Nat} (h:∀ j,eL (l.getD j au)) (e:eL t) (j:Nat):eL ((l.set k t).getD j au):=by
 rw[x7,j8];split
 . split
   . exact e
   . exact sV
 . simp_all
def aae:AV:= .mc aM (.agg [.own 0 s.af.length,ao s.mem,zud])
def cF:aF:=(bn p s a).1
def cq:aP:=(bn p s a).2.1
def c4:Ev:=aT s (cF p s a) (cq p s a)
def dx:Mem×Int×Int:=du s.mem (cF p s a) (cq p s a) (c4 p s a)
def iZ:ah×Int:=fk p b ⟨s.af,(dx p s a).1,[]⟩ (c4 p s a).obj (cq p s a).obj (bz (cF p s a) (cq p s a).b)
def iP:aF×Int:=cy p b (cF p s a) (dx p s a).2.1
def oSm:FuncId ->List AV ->Option AV
 |111,_=>some (co (aX p b))
 |103,_=>some (.bool (c9 p b s))
 |112,_=>some (.ax [vT (cF p s a),vI (cq p s a), .bool (bn p s a).2.2])
 |105,_=>some (.bool (z20 s (cF p s a) (cq p s a)))
 |113,_=>some (dg (c4 p s a))
 |114,_=>some (aae s)
 |115,_=>some (.ax [vM (dx p s a).1,co (dx p s a).2.1,co (dx p s a).2.2])
 |116,_=>some (vM (dx p s a).1)
 |118,_=>some (.ax [vT (iP p b s a).1,co (iP p b s a).2])
 |119,[.seq _ n f, .int _ i]=>some (.ax [co (max (aV (dR dT (.seq zk n f)) i) 0), .bool (decide (0<=aV (dR dT (.seq zk n f)) i))])
 |_,_=>none
def acn (p:aj) (b:Int) (s:ah) (a:Int) (n:Nat):bt:={jY n with
 fresh:=λf _=>match Nat.beq f 114 with |true=>some [fy s.af] |false=>none,
 mkr:=λ_ _=>some (.ax [acm (iZ p b s a).1,co (iZ p b s a).2],fy (iZ p b s a).1.af),oC:=λf _=>Nat.beq f 117}
theorem zuh:cf (acn p b s a n):=mC (am)
def vSm (p:aj) (b:Int) (s:ah) (a:Int) (n:Nat):bj:={C:=acn p b s a n,CC:=aL Tryz.prog GG,bb:=λ_ _=>oSm p b s a,inv:=λ_=>none,fz:=λk=>match Nat.beq k 16 with |true=>[258048] |false=>[]}
def zyc (n:Nat):bt:={dc n λ_ _=>false with oF:=λd=>Nat.beq d 42}
theorem zrg:cf (zyc n):=mC (am)
def am8 (n:Nat) (inv:Nat ->Option Inv):bj:={C:=zyc n,CC:=aL Tryz.prog GG,bb:=λ_ _=>ad7,inv:=inv}
def zyd:Option Inv:=match Nat.beq k 5 with
 |true=>iv s.af.length λi=>⟨[(1, .ptr 1 []),(2, .ptr 2 []),(3, .ptr 3 []),(22,co s.af.length),(23,co i)],[(1,fJ s),(2,fJ aE),(3, .cell 41 aM (.agg [.own 13 s.af.length,ao s.mem, .aA])),(13,fy s.af)]⟩
 |false=>match Nat.beq k 12 with
  |true=>iv s.ag.length λi=>⟨[(1, .ptr 1 []),(2, .ptr 2 []),(3, .ptr 3 []),(51,co s.ag.length),(52,co i)],[(1,fJ s),(2,fJ aE),(3, .cell 41 aM (.agg [.own 13 s.af.length,ao s.mem, .bS 42 0 s.ag.length true])),(13,fy s.af),(42,ky s.ag)]⟩
  |false=>none
section
variable (s:ah)
def ZV:Nat:=(dR (dR dI) (aJ s.mem.aa)).length
def lB:=RR ((0:Nat))/\∀ (i:Nat),i<(0:Nat)->RR (co (List.getD [] i (0:Int)))
def ta:=(RR ((0:Nat))/\∀ (i:Nat),i<(0:Nat)->RR (aq (List.getD [] i au)))/\(lB/\lB/\(RR ((0:Nat))/\∀ (i:Nat),i<(0:Nat)->RR (ab (List.getD [] i [])))/\lB)/\RR ((0:Nat))/\∀ (i:Nat),i<(0:Nat)->RR (aB (List.getD [] i aD))
def Rk:=AV.bS 42 0 s.ag.length true
variable (x0:Nat)
def GQ:Nat:=0+(↑x0:Int).toNat
variable (x1:Nat)
def qrt:cg:=s.ag.getD (GQ x1) aD
end
theorem al1 (hs:cK s) (h0:s.ag=[]):KF 114 [cj s] (aae s) [fy s.af]:=by
 refine pK (am8 69 (zyd s)) Tryz.func114 (KN 116 [AV.mc zm (ao s.mem)] (AV.mc zm (AV.agg [ab (dR dI (ab s.mem.vars)),ab (dR dI (ab s.mem.ae)),aJ (dR (dR dI) (aJ s.mem.aa)),ab (dR dI (ab s.mem.sig))]))/\oh s/\((0:Int)<=↑s.af.length/\(↑s.af.length:Int)<=(↑s.af.length:Int)/\↑(152:Nat)*↑s.af.length<=(140737488355328:Int)/\oh s)/\((↑s.af.length:Int).toNat<=(↑s.af.length:Int).toNat/\Zn s)/\Zn s/\(∃ (i:Nat),i<=List.length (ah.af s)/\((↑(Int.toNat (↑(List.length (ah.af s)):Int)):Int)=(↑(List.length (ah.af s)):Int)/\(0:Int)=(↑i:Int))/\LS (ze s) (ze s)/\((0:Nat)=(0:Nat)/\((0:Nat)=(0:Nat)/\(0:Nat)=(0:Nat)/\(0:Nat)=(0:Nat)/\(0:Nat)=(0:Nat))/\(0:Nat)=(0:Nat))/\(qdp s/\(List.length (dR dI (ab (Mem.vars (ah.mem s))))=List.length (Mem.vars (ah.mem s))/\∀ (i:Nat),i<List.length (dR dI (ab (Mem.vars (ah.mem s))))->AV.int j6 (List.getD (dR dI (ab (Mem.vars (ah.mem s)))) i (0:Int))=AV.int j6 (List.getD (Mem.vars (ah.mem s)) i (0:Int)))/\(List.length (dR dI (ab (Mem.ae (ah.mem s))))=List.length (Mem.ae (ah.mem s))/\∀ (i:Nat),i<List.length (dR dI (ab (Mem.ae (ah.mem s))))->AV.int j6 (List.getD (dR dI (ab (Mem.ae (ah.mem s)))) i (0:Int))=AV.int j6 (List.getD (Mem.ae (ah.mem s)) i (0:Int)))/\(ZV s=List.length (Mem.aa (ah.mem s))/\∀ (i:Nat),i<ZV s->ab (List.getD (dR (dR dI) (aJ (Mem.aa (ah.mem s)))) i [])=ab (List.getD (Mem.aa (ah.mem s)) i []))/\List.length (dR dI (ab (Mem.sig (ah.mem s))))=List.length (Mem.sig (ah.mem s))/\∀ (i:Nat),i<List.length (dR dI (ab (Mem.sig (ah.mem s))))->AV.int j6 (List.getD (dR dI (ab (Mem.sig (ah.mem s)))) i (0:Int))=AV.int j6 (List.getD (Mem.sig (ah.mem s)) i (0:Int)))/\qdp s/\∀ (i:Nat),i<Int.toNat (↑(List.length (ah.af s)):Int)->(if i<min (List.length (ah.af s)) (Int.toNat (↑(List.length (ah.af s)):Int))then aq (List.getD (ah.af s) i au)else AV.agg (AV.int j6 (0:Int)::AV.int j6 (0:Int)::AV.int j6 (0:Int)::(AV.arr (8:Nat) λ(x:Nat)=>AV.int j6 (0:Int))::AV.int j6 (0:Int)::AV.int j6 (0:Int)::AV.int j6 (0:Int)::yJ))=aq (List.getD (ah.af s) i au))/\∀ i:Nat,i<=s.af.length->(qc s i=true->ai (↑i) s.af.length/\KN 193 (Y1 s i) (jm s i)/\ai (↑i) s.af.length/\(↑i:Int).toNat<s.af.length/\qa i/\(∃ j,j<=s.af.length/\s.af.length - j<s.af.length - i/\(RR (↑s.af.length:Int)/\qb i j)/\LS (ze s) (ze s)/\ta/\(RR s.af.length/\LS (ao s.mem) (ao s.mem))/\RR s.af.length/\∀ (ar:Nat),ar<s.af.length->(if ar=(↑i:Int).toNat then AV.agg ((AV.int j6 (s.af.getD (↑i:Int).toNat au).id::AV.int j6 (s.af.getD (↑i:Int).toNat au).fn::AV.int j6 (s.af.getD (↑i:Int).toNat au).pc::my (s.af.getD (↑i:Int).toNat au).az::AV.int j6 (s.af.getD (↑i:Int).toNat au).steps::AV.int j6 (s.af.getD (↑i:Int).toNat au).kids::AV.int j6 (s.af.getD (↑i:Int).toNat au).phase::AV.int j6 (s.af.getD (↑i:Int).toNat au).status::AV.int j6 (s.af.getD (↑i:Int).toNat au).fault::Y1 s i).set 9 (av (jm s i)))else aq (s.af.getD ar au))=aq (s.af.getD ar au)))/\(qc s i=false->Yb s/\((0:Int)<=↑s.ag.length/\(↑s.ag.length:Int)<=(↑s.ag.length:Int)/\↑(40:Nat)*↑s.ag.length<=(140737488355328:Int)/\Yb s/\RR (↑s.ag.length:Int))/\(0+(↑s.ag.length:Int).toNat<=(↑s.ag.length:Int).toNat/\WY s)/\WY s/\(∃ i,i<=s.ag.length/\((↑(↑s.ag.length:Int).toNat:Int)=(↑s.ag.length:Int)/\0=(↑i:Int))/\LS (ze s) (ze s)/\ta/\(RR s.af.length/\LS (ao s.mem) (ao s.mem)/\AV.bS 42 0 (↑s.ag.length:Int).toNat true=Rk s)/\pG s/\(↑s.ag.length:Int).toNat=s.ag.length/\∀ (i:Nat),i<(↑s.ag.length:Int).toNat->(if 0<=i/\i<0+min s.ag.length (↑s.ag.length:Int).toNat then aB (s.ag.getD (i - 0) aD)else AV.agg yJ)=aB (s.ag.getD i aD))/\∀ (i:Nat),i<=s.ag.length->(xD s i=true->ai (↑i:Int) s.ag.length/\KN 194 [ck (s.ag.getD (↑i:Int).toNat aD).entries] (qdu s i)/\ai (↑i:Int) s.ag.length/\GQ i<s.ag.length/\qa i/\∃ j,j<=s.ag.length/\s.ag.length - j<s.ag.length - i/\(RR (↑s.ag.length:Int)/\qb i j)/\LS (ze s) (ze s)/\ta/\(RR s.af.length/\LS (ao s.mem) (ao s.mem)/\RR (Rk s))/\pG s/\RR s.ag.length/\∀ (ar:Nat),ar<s.ag.length->(if ar=(0:Nat)+(↑i:Int).toNat then AV.agg ([AV.int j6 (qrt s i).aC,AV.int j6 (qrt s i).first,ck (qrt s i).entries].set (2:Nat) (av (qdu s i)))else aB (s.ag.getD ar aD))=aB (s.ag.getD ar aD))/\(xD s i=false->s.ag.length<=s.ag.length/\(RR s.af.length/\LS (ao s.mem) (ao s.mem)/\(AV.bN cz s.ag.length λi=>aB (s.ag.getD i aD))=AV.bN cz (0:Nat) λi=>aB ([].getD i aD))/\pG s))) ?_;try delta oh Zn qdp ZV yJ Y1 jm q9 qa qb lB ta qc Yb WY Rk pG qdu GQ qrt xD
 simp only[SB,ai];simp only[oR,ep];have h1:=hs.af;have hb:s.ag.length=0:=by rw[h0];rfl
 refine⟨OH _ hs.mem,ac,ey,ac,ac,⟨0,ac,rfl,trivial,λj hj=>by rw[x9 ac]⟩,λi hi=>⟨λhlt=>⟨hlt,zqn _ (by have :=(hs.ok i).held;omega),hlt,hlt,dl,i+1,ac,ac,ac,trivial,trivial,λj hj=>?_⟩,λhge=>⟨ac,ey,ac,ac,⟨0,ac,rfl,trivial,trivial,λj hj=>ac⟩,λk hk=>⟨λhlt=>ac,λ_=>⟨trivial, ?_⟩⟩⟩⟩⟩
 . by_cases e:j=i
   . subst e;rw[x9 rfl];rfl
   . rw[x8 e]
 . rw[h0];rfl
theorem GF {r:ah×Ev×Int} {n:Int} (h:r=(aE,aH,n)):(r.1.af.length=0/\r.1.mem.vars.length=0/\r.1.mem.ae.length=0/\r.1.mem.aa.length=0/\r.1.mem.sig.length=0)/\(0=r.2.1.aG/\0=r.2.1.idx/\0=r.2.1.kind/\0=r.2.1.obj/\0=r.2.1.mutex/\0=r.2.1.entry/\0=r.2.1.ord/\0=r.2.1.read/\0=r.2.1.wrote)/\n=r.2.2:=by
 subst h;exact⟨⟨rfl,dD⟩,eq,rfl⟩
theorem Hu {p:aj} {s:ah} {a:Int} (h:(bn p s a).2.2=true):0<=aV s.af a/\cF p s a=s.af.getD (aV s.af a).toNat au/\cq p s a=zg p (cF p s a)/\cH p (cF p s a)=true:=by
 unfold cF cq;unfold bn at h ⊢;split at h
 . cases h
 . rename_i e;rw[x8 e];exact⟨ac,rfl,rfl,h⟩
theorem zfz {l:List aF} {k:Nat} {t:aF} (j:Nat) (f:k<l.length):(if j=k then aq t else aq (l.getD j au))=aq ((l.set k t).getD j au):=by
 rw[x7 (l:=l.set k t),j8];by_cases e:j=k
 . grind
 . rw[x8 e,x8 (λh=>e h.symm),x7]
theorem aac {W:ah} {a:Int} {n:aF} {e:Ev} {r:ah×Ev×Int} (k:BF W.af) (f:0<=aV W.af a) (j:r=({W with af:=W.af.set (aV W.af a).toNat n},e,0)):
 (0<=max (aV (dR dT (aK W.af)) a) 0/\max (aV (dR dT (aK W.af)) a) 0<(W.af.length:Int))/\(max (aV (dR dT (aK W.af)) a) 0).toNat<W.af.length/\
 (((W.af.length=r.1.af.length/\∀ i:Nat,i<W.af.length ->(if i=(max (aV (dR dT (aK W.af)) a) 0).toNat then aq n else aq (W.af.getD i au))=aq (r.1.af.getD i au))/\LS (ao W.mem) (ao r.1.mem))/\LS (bP e) (bP r.2.1)/\0=r.2.2):=by
 subst j;rw[pq k,yh f];have h:=(pT f).1;exact⟨⟨f,ac⟩,h,⟨⟨be,λi _=>zfz i h⟩,eE rfl⟩,eE rfl,rfl⟩
theorem aiy {p:aj} {b:Int} {s:ah} {a:Int} (h:(iZ p b s a).2=0):(iZ p b s a).1=⟨iu s.af (bf p b (c4 p s a).obj (cq p s a).obj (bz (cF p s a) (cq p s a).b)).1 (iD s.af (c4 p s a).obj),(dx p s a).1,[]⟩:=by
 unfold iZ fk at h ⊢;split at h
 . exact absurd h ap
 . rename_i f;split at h
   . exact absurd h ap
   . rename_i e;rw[x8 f,x8 e]
section
variable (p:aj) (b:Int) (s:ah) (a:Int)
def B5:Nat:=(cA p b s a).fst.af.length
def Rf:=B5 p b s a=0/\((cA p b s a).fst.mem.vars.length=0/\(cA p b s a).fst.mem.ae.length=0/\(cA p b s a).fst.mem.aa.length=0/\(cA p b s a).fst.mem.sig.length=0)/\RR 0
def s6:Ev:=(cA p b s a).snd.fst
def sf:=0=(s6 p b s a).aG/\0=(s6 p b s a).idx/\0=(s6 p b s a).kind/\0=(s6 p b s a).obj/\0=(s6 p b s a).mutex/\0=(s6 p b s a).entry/\0=(s6 p b s a).ord/\0=(s6 p b s a).read/\0=(s6 p b s a).wrote
def pZ:Int:=(cA p b s a).snd.snd
def Xv:=aX p b !=0
def Hj:=!(bn p s a).snd.snd
def qru:=(!Hj p s a)=true
def X0:=qru p s a->qru p s a
def CU:List AV:=[AV.mc aM (ze s),AV.mc zk (aq (cF p s a)),AV.mc zy (encI (cq p s a))]
def Gw:=Hj p s a||!z20 s (cF p s a) (cq p s a)
def DC:=AV.bN cz 0 λi=>aB ([].getD i aD)
def qrv:List AV:=[DC]
def Dp:=co (dx p s a).snd.fst
def GO:=(dx p s a).snd.snd !=0
variable (x4:Nat)
def Sk:=aq ((iZ p b s a).fst.af.getD x4 au)
def Sh:=(iZ p b s a).snd !=0
def TS:=KN 118 [AV.mc z7 (ak p),co b,AV.mc zk (aq (cF p s a)),Dp p s a] (AV.ax [AV.mc zk (aq (iP p b s a).fst),co (iP p b s a).snd])
def G7:=(iP p b s a).snd !=0
def MW:=G7 p b s a=true->Rf p b s a/\sf p b s a/\(iP p b s a).snd=pZ p b s a
def qrw:Int:=max (aV (dR dT (aK (iZ p b s a).fst.af)) a) 0
def Wx:=(iZ p b s a).fst.af.length<=(iZ p b s a).fst.af.length
def ZG:=aq ((cA p b s a).fst.af.getD x4 au)
def Gb:=RR DC
def Xn:=LS (bP (c4 p s a)) (bP (s6 p b s a))/\0=pZ p b s a
def UU:=G7 p b s a=false
def X4:=(c4 p s a).kind==16
end
theorem acr (hp:bG p) (hs:cK s) (hE:jM) (hq:(allI s.mem).length<400000) (hl:s.af.length<1000000):KN 60 [vP p, .int .i64 b,cj s, .int .i64 a] (.ax [sM (cA p b s a).1,dg (cA p b s a).2.1, .int .i64 (cA p b s a).2.2]):=by
 refine Kn (vSm p b s a 131) Tryz.func60 (KN 111 [AV.mc z7 (ak p),AV.int j6 b] (AV.int j6 (aX p b))/\(Xv p b=true->Rf p b s a/\sf p b s a/\aX p b=pZ p b s a)/\(Xv p b=false->KN 103 [AV.mc z7 (ak p),AV.int j6 b,AV.mc aM (ze s)] (AV.bool (c9 p b s))/\((!c9 p b s)=true->Rf p b s a/\sf p b s a/\1=pZ p b s a)/\((!c9 p b s)=false->KN 112 [AV.mc z7 (ak p),AV.mc aM (ze s),AV.int j6 a] (AV.ax [AV.mc zk (aq (cF p s a)),AV.mc zy (encI (cq p s a)),AV.bool (bn p s a).snd.snd])/\X0 p s a/\X0 p s a/\X0 p s a/\(qru p s a->KN 105 (CU p s a) (AV.bool (z20 s (cF p s a) (cq p s a))))/\X0 p s a/\X0 p s a/\(Gw p s a=true->Rf p b s a/\sf p b s a/\19=pZ p b s a)/\(Gw p s a=false->KN 113 (CU p s a) (AV.mc bp (bP (c4 p s a)))/\(KF (114:Nat) [AV.mc aM (ze s)] (AV.mc aM (AV.agg (AV.own (0:Nat) s.af.length::ao s.mem::qrv))) [aw.row (86:TypeId) zk s.af.length λi=>aq (s.af.getD i au)])/\KN 115 [AV.mc zm (ao s.mem),AV.mc zk (aq (cF p s a)),AV.mc zy (encI (cq p s a)),AV.mc bp (bP (c4 p s a))] (AV.ax [AV.mc zm (ao (dx p s a).fst),Dp p s a,AV.int j6 (dx p s a).snd.snd])/\(GO p s a=true->Rf p b s a/\sf p b s a/\30=pZ p b s a)/\(GO p s a=false->KN 116 [AV.mc zm (ao (dx p s a).fst)] (AV.mc zm (ao (dx p s a).fst))/\(X4 p s a=true->s.af.length<=s.af.length/\s.af.length<=s.af.length/\ai (cq p s a).b 8/\(KF (117:Nat) [AV.mc z7 (ak p),AV.int j6 b,AV.mc aM (AV.agg (aK s.af::ao (dx p s a).fst::qrv)),AV.int j6 (c4 p s a).obj,AV.int j6 (cq p s a).obj,AV.int j6 ((cF p s a).az.getD (cq p s a).b.toNat (0:Int))] (AV.ax [AV.mc aM (AV.agg (AV.own (0:Nat) (iZ p b s a).fst.af.length::ao (iZ p b s a).fst.mem::qrv)),AV.int j6 (iZ p b s a).snd]) [aw.row (86:TypeId) zk (iZ p b s a).fst.af.length λi=>Sk p b s a i])/\(Sh p b s a=true->Rf p b s a/\sf p b s a/\(iZ p b s a).snd=pZ p b s a)/\(Sh p b s a=false->TS p b s a/\MW p b s a/\(UU p b s a->KN 119 [aK (iZ p b s a).fst.af,AV.int j6 a] (AV.ax [AV.int j6 (qrw p b s a),AV.bool (decide ((0:Int)<=aV (dR dT (aK (iZ p b s a).fst.af)) a))])/\Wx p b s a/\ai (qrw p b s a) (iZ p b s a).fst.af.length/\(qrw p b s a).toNat<(iZ p b s a).fst.af.length/\Wx p b s a/\(((iZ p b s a).fst.af.length=B5 p b s a/\∀ i:Nat,i<(iZ p b s a).fst.af.length->(if i=(max (aV (dR dT (aK (iZ p b s a).fst.af)) a) 0).toNat then aq (iP p b s a).fst else Sk p b s a i)=ZG p b s a i)/\LS (ao (iZ p b s a).fst.mem) (ao (cA p b s a).fst.mem)/\Gb)/\Xn p b s a)))/\(X4 p s a=false->TS p b s a/\MW p b s a/\(UU p b s a->KN 119 [aK s.af,AV.int j6 a] (AV.ax [AV.int j6 (pF s a),AV.bool (decide ((0:Int)<=aV (dR dT (aK s.af)) a))])/\s.af.length<=s.af.length/\ai (pF s a) s.af.length/\(pF s a).toNat<s.af.length/\s.af.length<=s.af.length/\((s.af.length=B5 p b s a/\∀ i:Nat,i<s.af.length->(if i=(max (aV (dR dT (aK s.af)) a) 0).toNat then aq (iP p b s a).fst else aq (s.af.getD i au))=ZG p b s a i)/\LS (ao (dx p s a).fst) (ao (cA p b s a).fst.mem)/\Gb)/\Xn p b s a))))))) ?_;try delta B5 Rf s6 sf pZ Xv Hj qru X0 CU Gw DC qrv Dp GO Sk Sh TS G7 MW qrw Wx ZG Gb Xn UU X4 pF
 simp only[SZ];have ld:∀ {w:ah×Int},w=(if(c4 p s a).kind=16 then fk p b {s with mem:=(dx p s a).1} (c4 p s a).obj (cq p s a).obj (bz (cF p s a) (cq p s a).b)else({s with mem:=(dx p s a).1},0)) ->cA p b s a=
  if aX p b≠0 then(aE,aH,aX p b)else if c9 p b s=false then(aE,aH,1)else if(bn p s a).2.2=false∨z20 s (cF p s a) (cq p s a)=false then(aE,aH,19)else if(dx p s a).2.2≠0 then(aE,aH,30)
  else if w.2≠0 then(aE,aH,w.2)else if(iP p b s a).2≠0 then(aE,aH,(iP p b s a).2)else({w.1 with af:=w.1.af.set (aV w.1.af a).toNat (iP p b s a).1},c4 p s a,0):=λh=>by subst h;rfl
 have lb:=ld rfl;refine⟨ae8 p b hp,λh=>GF (by rw[lb,x9 h]),λh1=>⟨zfq p b s hp hs,λh=>GF (by rw[lb,x8 (by simp[h1]),x9 h]),λh2=>?_⟩⟩;rw[x8 (by simp[h1]),x8 (by simp[h2])]at lb;have V:=qH.1 h2;have hb0:s.ag=[]:=y3 V.2.1;have I:(bn p s a).2.2=true ->eL (cF p s a)/\jv s.mem (cq p s a):=λh=>by
  obtain⟨_,r2,r3,r4⟩:=Hu h;have ht:eL (cF p s a):=by rw[r2];exact hs.ok _
  have :=zaa hp ht V.1 r4;rw[r3,this.2];exact⟨ht,this.1⟩
 refine⟨ad2 p s a hp hs,λh=>aax s _ _ hs (I h).1 (I h).2,λh=>GF (by rw[lb,x9 h]),λh3=>?_⟩;rw[x8 (by simp[h3.1,h3.2])]at lb;obtain⟨ht,hi⟩:=I h3.1;obtain⟨r1,r2,r3,r4⟩:=Hu h3.1;have Z:=zre hs.mem hq (cF p s a) (cq p s a) (c4 p s a);refine⟨acp s _ _ hs ht hi,al1 s hs hb0,aft s.mem _ _ _ hs.mem hE,λh=>GF (by rw[lb,x9 h]),λh4=>⟨OH _ Z.1,λh5=>?_,λh5=>?_⟩⟩
 . rw[x8 (by simp[h4]),x9 h5]at lb;have he:fk p b {s with mem:=(dx p s a).1} (c4 p s a).obj (cq p s a).obj (bz (cF p s a) (cq p s a).b)=iZ p b s a:=by
    unfold iZ;rw[show({s with mem:=(dx p s a).1}:ah)=⟨s.af,(dx p s a).1,[]⟩from by rw[<- hb0]]
   rw[he]at lb;obtain⟨op,ob⟩:=z9s h5;have hs1:cK ⟨s.af,(dx p s a).1,[]⟩:=⟨hs.af,hs.ok,Z.1,xp _,λ_=>xp _⟩;refine⟨hi.b ac,am6 p b ⟨s.af,(dx p s a).1,[]⟩ _ _ _ hp hs1 (by have :=z9t (cF p s a);rw[show(c4 p s a).obj=fZ (cF p s a)from ob];omega),λh=>GF (by rw[lb,x9 h]),λh6=>⟨z117 p b _ _ hp ht,λh=>GF (by rw[lb,x8 (by simp[h6]),x9 h]),λh7=>?_⟩⟩;rw[x8 (by simp[h6]),x8 (by simp[h7])]at lb;have hw:=aiy h6;have hid:(c4 p s a).obj<=9223372036854775807:=by have :=z9t (cF p s a);rw[show(c4 p s a).obj=fZ (cF p s a)from ob];omega
   have h8:BF (iZ p b s a).1.af:=λj=>by rw[hw];exact(zjj (zN _ _) hs.ok (zji hp hid) j).az
   have h9:0<=aV (iZ p b s a).1.af a:=by rw[hw];exact zrc _ (zN _ _) r1
   have hl2:(iZ p b s a).1.af.length<=1000000:=by rw[hw];show(iu _ _ _).length<=_;rw[z9q _ _ _ (zN _ _)];omega
   exact⟨by rw[pq h8];exact XA _ _ hl2 h8,aac h8 h9 lb⟩
 . rw[x8 (by simp[h4]),x8 h5,x8 be]at lb;refine⟨z117 p b _ _ hp ht,λh=>GF (by rw[lb,x9 h]),λh7=>?_⟩;rw[x8 (by simp[h7])]at lb;exact⟨by rw[pq hs.r8];exact XA _ _ hs.af hs.r8,aac (W:={s with mem:=(dx p s a).1}) hs.r8 r1 lb⟩
theorem zjl {p:aj} {b:Int} {s:ah} {a:Int} (m:bG p) (hs:cK s) (J:(allI s.mem).length<400000) (hl:s.af.length<1000000):cK (cA p b s a).1/\(allI (cA p b s a).1.mem).length<=(allI s.mem).length+1/\(cA p b s a).1.af.length<=s.af.length+1:=by
 have bad:∀ {r:ah×Ev×Int} {n:Int},r=(aE,aH,n) ->cK r.1/\(allI r.1.mem).length<=(allI s.mem).length+1/\r.1.af.length<=s.af.length+1:=λh=>by subst h;exact⟨zft,xp _,xp _⟩
 have e:cA p b s a=
  if aX p b≠0 then(aE,aH,aX p b)else if c9 p b s=false then(aE,aH,1)else if(bn p s a).2.2=false∨z20 s (cF p s a) (cq p s a)=false then(aE,aH,19)else if(dx p s a).2.2≠0 then(aE,aH,30)
  else if(if(c4 p s a).kind=16 then fk p b {s with mem:=(dx p s a).1} (c4 p s a).obj (cq p s a).obj (bz (cF p s a) (cq p s a).b)else({s with mem:=(dx p s a).1},0)).2≠0 then(aE,aH,(if(c4 p s a).kind=16 then fk p b {s with mem:=(dx p s a).1} (c4 p s a).obj (cq p s a).obj (bz (cF p s a) (cq p s a).b)else({s with mem:=(dx p s a).1},0)).2)
  else if(iP p b s a).2≠0 then(aE,aH,(iP p b s a).2)else({(if(c4 p s a).kind=16 then fk p b {s with mem:=(dx p s a).1} (c4 p s a).obj (cq p s a).obj (bz (cF p s a) (cq p s a).b)else({s with mem:=(dx p s a).1},0)).1 with af:=(if(c4 p s a).kind=16 then fk p b {s with mem:=(dx p s a).1} (c4 p s a).obj (cq p s a).obj (bz (cF p s a) (cq p s a).b)else({s with mem:=(dx p s a).1},0)).1.af.set (aV (if(c4 p s a).kind=16 then fk p b {s with mem:=(dx p s a).1} (c4 p s a).obj (cq p s a).obj (bz (cF p s a) (cq p s a).b)else({s with mem:=(dx p s a).1},0)).1.af a).toNat (iP p b s a).1},c4 p s a,0):=rfl
 by_cases E:aX p b≠0
 . exact bad (by rw[e,x9 E])
 rw[x8 E]at e;by_cases z:c9 p b s=false
 . exact bad (by rw[e,x9 z])
 rw[x8 z]at e;by_cases k:(bn p s a).2.2=false∨z20 s (cF p s a) (cq p s a)=false
 . exact bad (by rw[e,x9 k])
 rw[x8 k]at e;by_cases y:(dx p s a).2.2≠0
 . exact bad (by rw[e,x9 y])
 rw[x8 y]at e;have F:(bn p s a).2.2=true:=by
  cases h:(bn p s a).2.2 with
  |true=>rfl
  |false=>exact absurd (.inl h) k
 have⟨r1,r2,_,_⟩:=Hu F;have H:eL (cF p s a):=by rw[r2];exact hs.ok _
 have Z:=zre hs.mem J (cF p s a) (cq p s a) (c4 p s a);have o:eL (iP p b s a).1:=zm4 m H;by_cases j:(c4 p s a).kind=16
 . simp only[x9 j]at e;have i:(c4 p s a).obj<=9223372036854775807:=by
    have :=z9t (cF p s a);rw[show(c4 p s a).obj=fZ (cF p s a)from(z9s j).2];omega
   unfold fk at e;by_cases x:0<=aV s.af (c4 p s a).obj
   . exact bad (by rw[e,x9 x,x9 ap])
   rw[x8 x]at e;by_cases u:(bf p b (c4 p s a).obj (cq p s a).obj (bz (cF p s a) (cq p s a).b)).2≠0
   . exact bad (by rw[e,x9 u,x9 ap])
   rw[x8 u,x8 (λh=>h rfl)]at e;by_cases f:(iP p b s a).2≠0
   . exact bad (by rw[e,x9 f])
   rw[x8 f]at e;rw[e];have K:=z9q s.af (bf p b (c4 p s a).obj (cq p s a).obj (bz (cF p s a) (cq p s a).b)).1 (iD s.af (c4 p s a).obj) (zN _ _);exact⟨⟨by simp only[wc];omega,zfy (zjj (zN _ _) hs.ok (zji m i)) o,Z.1,hs.ag,hs.cE⟩,Z.2,by simp only[wc];omega⟩
 . simp only[x8 j]at e;rw[x8 (λh=>h rfl)]at e;by_cases f:(iP p b s a).2≠0
   . exact bad (by rw[e,x9 f])
   rw[x8 f]at e;rw[e];exact⟨⟨by simp only[wc];omega,zfy hs.ok o,Z.1,hs.ag,hs.cE⟩,Z.2,by simp only[wc];omega⟩
def gM:ah×Ev×Int:=cA p b (bX s) a
def oOt:FuncId ->List AV ->Option AV
 |172,_=>some (fY s)
 |60,_=>some (.ax [sM (gM p b s a).1,dg (gM p b s a).2.1, .int .i64 (gM p b s a).2.2])
 |187,_=>some (bc s.ag)
 |188,[_, .int _ t]=>some (.ax [.int .i64 (max (dz s.ag t) 0), .bool (decide (0<=dz s.ag t))])
 |_,_=>none
def vBl (l:List cg) (ts:List aF):AV:= .seq cz ts.length λj=>kx l (ts.getD j au).id
def vOt (p:aj) (b:Int) (s:ah) (a:Int) (n:Nat) (I:Nat ->Option Inv):bj:={C:=dc n λ_ _=>false,CC:=aL Tryz.prog GG,bb:=λ_ _=>oOt p b s a,inv:=λ_=>none,AK:=I}
def af9:Option Inv:=match Nat.beq k 6 with
 |true=>iw ((gM p b s a).1.af.length) (λi=>⟨[(8, .ptr 8 []),(9, .ptr 9 []),(11, .ptr 11 []),(12, .ptr 12 []),(14,bc s.ag),(40,aK (gM p b s a).1.af),(41, .int .i64 (gM p b s a).1.af.length),(42, .int .i64 i)],[(8,fJ aE),(9,GH aH),(11, .cell 41 aM (.agg [aK (gM p b s a).1.af,ao (gM p b s a).1.mem, .own 65 i])),(12,GH (gM p b s a).2.1),(65,aby s.ag (gM p b s a).1.af i)]⟩) λi=>(gM p b s a).2.2=0
 |false=>none
end
end Go.Proofs.S25
