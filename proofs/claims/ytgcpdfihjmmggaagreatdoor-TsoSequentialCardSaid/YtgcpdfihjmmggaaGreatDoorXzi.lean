import Derived.Test.YtgcpdfihjmmggaaGreatDoorXzd
import Derived.Test.YtgcpdfihjmmggaaGreatDoorXh
namespace Go.Proofs.S25
open Go Go.AV
open Go.IntKind renaming i64 -> j6
open Go.AV.Shape (leaf)
noncomputable section
variable {w:World} {F:Nat ->Prop} {v:Value} (l:List Int) (m:Mem)
def gW:AV:= .bD .leaf l.length λi=> .int .i64 (l.getD i 0)
def afa (l:List (List Int)):ar:= .row 29 .leaf l.length λi=>gW (l.getD i [])
def abn:List ar:=[bw m.vars,bw m.aa,afa m.a6,bw m.sig]
def Ze:FuncId ->List AV ->Option AV
 |225,[.seq _ n f]=>some (gW (zw n f))
 |_,_=>none
noncomputable def vEc (n:Nat):bm:={C:={di n (λ_ _=>false)with mq:=λd=>Nat.beq d 6},CC:=bO Tryz.prog GG,b9:=λ_ _=>Ze,inv:=λ_=>none}
theorem zuo (n:Nat):ct {di n (λ_ _=>false)with mq:=λd=>Nat.beq d 6}:=ll (by kernel_rfl)
noncomputable def vEd (n:Nat) (inv:Nat ->Option Inv):bm:={C:=di n λf d=>Nat.beq f 225&&(Nat.beq d 8 || (Nat.beq d 11 || Nat.beq d 18)),CC:=bO Tryz.prog GG,b9:=λ_ _=>Ze,inv:=inv}
def oEq:FuncId ->List AV ->Option AV
 |189,[_, .int _ i, .int _ n]=>some (.int .i64 (bC m i n))
 |253,[_, .int _ id]=>some (.bool (nt m id))
 |185,_=>some (va m)
 |_,_=>none
def ald:FuncId ->List AV ->Option (List ar)
 |185,_=>some (abn m)
 |_,_=>none
noncomputable def ab4 (m:Mem) (n:Nat):bu:={di n (λ_ _=>false)with fresh:=ald m,iZ:=λd=>Nat.beq d 39}
theorem zup (n:Nat):ct (ab4 m n):=ll (by kernel_rfl)
noncomputable def vEq (m:Mem) (n:Nat):bm:={C:=ab4 m n,CC:=bO Tryz.prog GG,b9:=λ_ _=>oEq m,inv:=λ_=>none}
def mM:AV:= .seq .leaf l.length λi=>if i<l.length then .int .i64 (l.getD i 0)else .any
def vMq (c id:Int):AV:= .mc zm (.agg [a8 (aZ m c id).1.vars,a8 (aZ m c id).1.aa, .seq .leaf (aZ m c id).1.a6.length (λj=>if j=c.toNat then mM ((aZ m c id).1.a6.getD j [])else gW ((aZ m c id).1.a6.getD j [])),a8 (aZ m c id).1.sig])
def zze (k:Nat):Option Inv:=match Nat.beq k 3 with
 |true=>iv m.a6.length λi=>⟨[(1, .ptr 1 []),(2, .ptr 2 []),(3, .ptr 3 []),(21,aE m.a6),(22, .int .i64 m.a6.length),(23, .int .i64 i)],[(1,iY m),(2,iY du),(3, .cell 32 zm (.agg [.own 8 m.vars.length, .own 11 m.aa.length, .own 15 m.a6.length, .own 18 m.sig.length])),(8,bw m.vars),(11,bw m.aa),(15, .row 29 .leaf m.a6.length λj=>if j<i then gW (m.a6.getD j [])else .ax),(18,bw m.sig)]⟩
 |false=>none
theorem zur (hl:l.length<=1000000):KN 225 [a8 l] (gW l):=by
 refine Kn (vEc 11) Tryz.func225 (q8 l/\((0:Int)<=↑l.length/\(↑l.length:Int)<=(↑l.length:Int)/\↑(8:Nat)*↑l.length<=(140737488355328:Int)/\q8 l/\RR (↑l.length:Int))/\(0+(↑l.length:Int).toNat<=(↑l.length:Int).toNat/\(↑(↑l.length:Int).toNat:Int)<=9223372036854775807)/\(↑l.length:Int).toNat<=(↑l.length:Int).toNat/\(AV.bD leaf (↑l.length:Int).toNat λi=>if 0<=i/\i<0+min l.length (↑l.length:Int).toNat then AV.int j6 (l.getD (i - 0) 0)else AV.int j6 0)=AV.bD leaf l.length λi=>AV.int j6 (l.getD i 0)) ?_
 try delta q8
 simp only[SB,af]
 refine⟨by omega,⟨by omega,by omega⟩,by omega, ?_⟩
 congr 1
 funext i
 split
 . rfl
 . rw[x7,y9 (by omega)];rfl
section
variable (m:Mem)
def Jr:=RR m.a6.length/\∀ (i:Nat),i<m.a6.length->RR (a8 (m.a6.getD i []))
variable (x1:Nat) (x2:Nat)
def Zw:=if x2<x1 then gW (m.a6.getD x2 [])else AV.ax
def vg:List Int:=zw (m.a6.getD (↑x1:Int).toNat []).length λi=>AV.int j6 ((m.a6.getD (↑x1:Int).toNat []).getD i 0)
def vK:=RR ((0:Nat))/\∀ (i:Nat),i<(0:Nat)->RR (AV.int j6 (List.getD [] i (0:Int)))
end
theorem age (hm:dk m):KF 185 [vM m] (va m) (abn m):=by
 refine nc (vEd 36 (zze m)) Tryz.func185 ((KF (225:Nat) [a8 m.vars] (AV.own (0:Nat) m.vars.length) [ar.row (3:TypeId) leaf (ql m) λi=>qu m i])/\(KF (225:Nat) [a8 m.aa] (AV.own (0:Nat) m.aa.length) [ar.row (3:TypeId) leaf (qm m) λi=>qv m i])/\lk m/\((0:Int)<=↑m.a6.length/\(↑m.a6.length:Int)<=(↑m.a6.length:Int)/\↑(24:Nat)*↑m.a6.length<=(140737488355328:Int)/\lk m)/\(KF (225:Nat) [a8 m.sig] (AV.own (0:Nat) m.sig.length) [ar.row (3:TypeId) leaf (qk m) λi=>qo m i])/\lk m/\(∃ (i:Nat),i<=List.length (Mem.a6 m)/\(Jr m/\RR (↑(List.length (Mem.a6 m)):Int)/\(0:Int)=(↑i:Int))/\LS (aj m) (aj m)/\((0:Nat)=(0:Nat)/\(0:Nat)=(0:Nat)/\(0:Nat)=(0:Nat)/\(0:Nat)=(0:Nat))/\(RR (List.length (Mem.vars m))/\RR (List.length (Mem.aa m))/\uv m/\RR (List.length (Mem.sig m)))/\(ql m=List.length (Mem.vars m)/\∀ (i:Nat),i<ql m->qu m i=AV.int j6 (List.getD (Mem.vars m) i (0:Int)))/\(qm m=List.length (Mem.aa m)/\∀ (i:Nat),i<qm m->qv m i=AV.int j6 (List.getD (Mem.aa m) i (0:Int)))/\(uv m/\∀ (i_1:Nat),i_1<Int.toNat (↑(List.length (Mem.a6 m)):Int)->AV.ax=Zw m i i_1)/\qk m=List.length (Mem.sig m)/\∀ (i:Nat),i<qk m->qo m i=AV.int j6 (List.getD (Mem.sig m) i (0:Int)))/\∀ i:Nat,i<=m.a6.length->(qj m i=true->af (↑i) m.a6.length/\(KN 225 [a8 (m.a6.getD (↑i:Int).toNat [])] (AV.bD leaf (vg m i).length λi_1=>AV.int j6 ((vg m i).getD i_1 (0:Int))))/\af (↑i) m.a6.length/\(↑i:Int).toNat<m.a6.length/\aM j6 (q9 i)/\(∃ (j:Nat),j<=List.length (Mem.a6 m)/\qi m j<qi m i/\(Jr m/\RR (↑(List.length (Mem.a6 m)):Int)/\q9 i=(↑j:Int))/\LS (aj m) (aj m)/\(vK/\vK/\(RR ((0:Nat))/\∀ (i:Nat),i<(0:Nat)->RR (a8 (List.getD [] i [])))/\vK)/\Xz m/\lp m/\lg m/\(RR (List.length (Mem.a6 m))/\∀ (i_1:Nat),i_1<List.length (Mem.a6 m)->(if i_1=Int.toNat (↑i:Int)then aq (gW (vg m i))else Zw m i i_1)=Zw m j i_1)/\mw m))/\(qj m i=false->Xz m/\lp m/\lg m/\(RR m.a6.length/\∀ (i_1:Nat),i_1<m.a6.length->Zw m i i_1=gW (m.a6.getD i_1 []))/\mw m)) ?_
 try delta sQ ql qu tZ qm qv lk qB qk qo Jr uv Zw vg q9 qi vK Xz lp lg mw qj
 simp only[SB,af]
 simp only[oR,w8,wg,w6,iL]
 have s3:=hm.a6
 refine⟨rD _ hm.vars,rD _ hm.aa,by omega,⟨by omega,by omega⟩,rD _ hm.sig,by omega,⟨0,by omega,rfl,λj hj=>by rw[x8 (by omega)]⟩,λi hi=>⟨λhlt=>⟨hlt,zur _ (hm.q i),hlt,hlt,za (by omega) (by omega),i+1,hlt,by omega,by omega,λj hj=>?_⟩,λhge j hj=>by rw[x9 (by omega)]⟩⟩
 by_cases e:j=i
 . subst e;rw[x9 rfl,x9 (by omega)];rfl
 . rw[x8 e]
   by_cases h:j<i
   . rw[x9 h,x9 (by omega)]
   . rw[x8 h,x8 (by omega)]
theorem zus (x:Int):(AV.seq .leaf (l.length+1) λi=>if i<l.length then AV.int .i64 (l.getD i 0)else((List.replicate 1 (AV.int .i64 0)).set 0 (AV.int .i64 x)).getD (i - l.length) AV.any)=mM (l++[x]):=by
 unfold mM
 have hl:(l++[x]).length=l.length+1:=by simp
 rw[hl]
 congr 1
 funext i
 by_cases h1:i<l.length
 . rw[x9 h1,x9 (by omega),x7,x7,ya (by omega)]
 . rw[x8 h1]
   by_cases h2:i<l.length+1
   . rw[x9 h2]
     have e:i=l.length:=by omega
     subst e
     rw[yz,x7 (l:=l++[x]),y6 (xm _),yz];rfl
   . rw[x8 h2,x7,y9 (by simp;omega)];rfl
section
variable (m:Mem) (c:Int) (id:Int)
def vw:=(aZ m c id).fst.vars.length=0/\(aZ m c id).fst.aa.length=0/\(aZ m c id).fst.a6.length=0/\(aZ m c id).fst.sig.length=0
def NF:=bC m c ↑m.a6.length !=0
def qti:Nat:=(m.a6.getD c.toNat []).length+1
variable (x3:Nat)
def AW:List Int:=(aZ m c id).fst.a6.getD x3 []
end
theorem aev (c id:Int) (hm:dk m):KN 239 [vM m, .int .i64 c, .int .i64 id] (.av [vMq m c id, .int .i64 (aZ m c id).2]):=by
 refine Kn (vEq m 42) Tryz.func239 (↑m.a6.length<=(9223372036854775807:Int)/\KN 189 [AV.mc zm (aj m),AV.int j6 c,AV.int j6 ↑m.a6.length] (AV.int j6 (bC m c ↑m.a6.length))/\(NF m c=true->vw m c id/\bC m c ↑m.a6.length=(aZ m c id).snd)/\(NF m c=false->(pw id=true->vw m c id/\2=(aZ m c id).snd)/\(pw id=false->KN 253 [AV.mc zm (aj m),AV.int j6 id] (AV.bool (nt m id))/\(nt m id=true->vw m c id/\30=(aZ m c id).snd)/\(nt m id=false->(KF (185:Nat) [AV.mc zm (aj m)] (AV.mc zm (AV.agg [AV.own (0:Nat) m.vars.length,AV.own (1:Nat) m.aa.length,AV.own (2:Nat) m.a6.length,AV.own (3:Nat) m.sig.length])) [ar.row (3:TypeId) leaf m.vars.length λi=>AV.int j6 (m.vars.getD i (0:Int)),ar.row (3:TypeId) leaf m.aa.length λi=>AV.int j6 (m.aa.getD i (0:Int)),ar.row (29:TypeId) leaf m.a6.length λi=>gW (m.a6.getD i []),ar.row (3:TypeId) leaf m.sig.length λi=>AV.int j6 (m.sig.getD i (0:Int))])/\af c m.a6.length/\c.toNat<m.a6.length/\1*leaf.size<=16777216/\(0<1/\↑(qti m c)*↑(8:Nat)<=(140737488355328:Int)/\qti m c<=9223372036854775807)/\1<=1/\af c m.a6.length/\c.toNat<m.a6.length/\m.vars.length<=m.vars.length/\m.aa.length<=m.aa.length/\m.a6.length<=m.a6.length/\m.sig.length<=m.sig.length/\((m.vars.length=(aZ m c id).fst.vars.length/\∀ i:Nat,i<m.vars.length->AV.int j6 (m.vars.getD i 0)=AV.int j6 ((aZ m c id).fst.vars.getD i 0))/\(m.aa.length=(aZ m c id).fst.aa.length/\∀ i:Nat,i<m.aa.length->AV.int j6 (m.aa.getD i 0)=AV.int j6 ((aZ m c id).fst.aa.getD i 0))/\(m.a6.length=(aZ m c id).fst.a6.length/\∀ i:Nat,i<m.a6.length->(if i=c.toNat then aq (AV.seq leaf (qti m c) λi=>if i<(m.a6.getD c.toNat []).length then AV.int j6 ((m.a6.getD c.toNat []).getD i 0)else((List.replicate 1 (AV.int j6 0)).set 0 (aq (aq (AV.int j6 id)))).getD (i - (m.a6.getD c.toNat []).length) AV.any)else gW (m.a6.getD i []))=if i=c.toNat then mM (AW m c id i)else gW (AW m c id i))/\m.sig.length=(aZ m c id).fst.sig.length/\∀ i:Nat,i<m.sig.length->AV.int j6 (m.sig.getD i 0)=AV.int j6 ((aZ m c id).fst.sig.getD i 0))/\0=(aZ m c id).snd)))) ?_
 try delta vw NF pw qti AW
 simp only[SB,af]
 have s3:=hm.a6
 have bad:∀ n:Int,aZ m c id=(du,n) ->((aZ m c id).1.vars.length=0/\(aZ m c id).1.aa.length=0/\(aZ m c id).1.a6.length=0/\(aZ m c id).1.sig.length=0)/\n=(aZ m c id).2:=λn h=>by rw[h];exact⟨⟨rfl,rfl,rfl,rfl⟩,rfl⟩
 refine⟨by omega,TC m c _ hm,λh=>bad _ (by unfold aZ;rw[x9 h]),λh1=>⟨λh=>bad _ (by unfold aZ;rw[x8 (by simp[h1]),x9 h]),λh2=>⟨aik m id hm,λh=>bad _ (by unfold aZ;rw[x8 (by simp[h1]),x8 h2,x9 h]),λh3=>?_⟩⟩⟩
 have e:aZ m c id=({m with a6:=m.a6.set c.toNat (m.a6.getD c.toNat []++[id])},0):=by unfold aZ;rw[x8 (by simp[h1]),x8 h2,x8 (by simp[h3])]
 have hc:=(kM h1).2
 have hq:=hm.q c.toNat
 rw[e]
 refine⟨age m hm,hc,by omega,by decide,⟨by decide,by omega,by omega⟩,hc,by omega,⟨⟨rfl,λ_ _=>rfl⟩,⟨rfl,λ_ _=>rfl⟩,⟨by simp,λj hj=>?_⟩,rfl,λ_ _=>rfl⟩,rfl⟩
 show _=if j=c.toNat then mM ((m.a6.set c.toNat (m.a6.getD c.toNat []++[id])).getD j [])else gW ((m.a6.set c.toNat (m.a6.getD c.toNat []++[id])).getD j [])
 by_cases ej:j=c.toNat
 . rw[x9 ej,x9 ej,zus,ej,x7 (l:=m.a6.set _ _),List.getElem?_set_self (by omega)];rfl
 . rw[x8 ej,x8 ej,x7 (l:=m.a6.set _ _),List.getElem?_set_ne (λe=>ej e.symm),<- x7]
theorem zjt {n:Nat} {f g:Nat ->AV} (h:au w F v (.seq .leaf n f)) (hm:∀ i,i<n ->(f i).b8=true/\(g i).b8=true/\∀ u,au w F u (f i) ->au w F u (g i)):au w F v (.seq .leaf n g):=by
 cases h with
 |cH=>exact .cH _ _ _ _
 |seq g' o n cap sh f cs h1 h2 h3 h4=>
  refine .seq g' o _ _ .leaf _ cs h1 h2 h3 λi hi j hj=>?_
  have hj0:j=0:=by have :j<1:=hj;omega
  subst hj0
  obtain⟨m1,m2,m3⟩:=hm i hi
  have h5:=h4 i hi 0 hj
  unfold z6 eC at h5 ⊢
  rw[m1]at h5
  rw[m2]
  exact m3 _ h5
theorem zut {l:List Int} (h:au w F v (gW l)):au w F v (a8 l):=by
 unfold gW at h
 show au w F v (.seq .leaf l.length λi=> .int .i64 (l.getD i 0))
 generalize l.length=n at h ⊢
 cases h with
 |ik=>exact .cH _ _ _ _
 |bD g o n sh f cs h1 h2 h3=>exact .seq g o _ _ .leaf _ cs h1 (xm _) h2 h3
theorem zuu {l:List Int} (h:au w F v (mM l)):au w F v (a8 l):=
 zjt h λi hi=>⟨by rw[x9 hi];rfl,rfl,λu hu=>by rw[x9 hi]at hu;exact hu⟩
theorem ah4:lz:=λm c id hm=>by
 refine(aev m c id hm).imp λw F v h=>dx.jT (r:=[_,_]) (r':=[_,_]) (by rfl) (λj hj u hu=>?_) h
 match j,hj with
 |1,_=>exact hu
 |0,_=>
  have hu:au w F u (vMq m c id):=hu
  cases hu with
  |mc cs sh x hs hr=>
   refine .mc cs _ _ hs λj hj=>?_
   have h:=hr j hj
   match j,hj with
   |0,_ |1,_ |3,_=>exact h
   |2,_=>
    show au w F _ (aE (aZ m c id).1.a6)
    have h:au w F _ (.seq .leaf (aZ m c id).1.a6.length (λj=>if j=c.toNat then mM ((aZ m c id).1.a6.getD j [])else gW ((aZ m c id).1.a6.getD j []))):=h
    refine zjt h λi _=>?_
    by_cases e:i=c.toNat
    . rw[x9 e];exact⟨rfl,rfl,λu hu=>zuu hu⟩
    . rw[x8 e];exact⟨rfl,rfl,λu hu=>zut hu⟩
theorem zs7 {m:Mem} (hm:jZ m) {i j:Nat} (hij:i<j) (hj:j<m.a6.length) (h1:0<(m.a6.getD i []).length) (h2:0<(m.a6.getD j []).length):(m.a6.getD i []).getD 0 0≠(m.a6.getD j []).getD 0 0:=by
 have hn:=hm.nd
 unfold allI at hn
 have h3:=(List.pairwise_flatten.1 (List.pairwise_append.1 hn).2.1).2
 rw[wh]at h3
 have h4:=h3 i j (by omega) hj hij
 have e:∀ k (hk:k<m.a6.length),m.a6[k]=m.a6.getD k []:=λk hk=>by rw[x7,xe hk];rfl
 rw[e i (by omega),e j hj]at h4
 exact h4 _ (oI h1) _ (oI h2)
theorem zuv {m:Mem} (hm:jZ m) {i j:Nat} (hij:i≠j) (hi:i<m.a6.length) (hj:j<m.a6.length) (h1:0<(m.a6.getD i []).length) (h2:0<(m.a6.getD j []).length):(m.a6.getD i []).getD 0 0≠(m.a6.getD j []).getD 0 0:=by
 rcases Nat.lt_or_gt_of_ne hij with h |h
 . exact zs7 hm h hj h1 h2
 . exact(zs7 hm h hi h2 h1).symm
end
end Go.Proofs.S25
namespace Go.Proofs.S25
open Go Go.AV Go.RowKit
variable (N:Nat ->Prop)
def GN:List (Nat×AV):=(aaj, .jS N)::GG
theorem zju {N:Nat ->Prop} {g:Nat} {x:AV} (h:AV.get GG g=some x):AV.get (GN N) g=some x:=by
 unfold GG at h
 simp only[AV.get]at h
 split at h
 . rename_i e
   rw[<- xc e];exact h
 . split at h
   . rename_i e
     rw[<- xc e];exact h
   . cases h
def fg (l:List Int):AV:= .cz N .leaf l.length λi=> .int .i64 (l.getD i 0)
def ZE (l:List (List Int)):ar:= .row 29 .leaf l.length λi=>fg N (l.getD i [])
def abd (m:Mem):List ar:=[bw m.vars,bw m.aa,ZE N m.a6,bw m.sig]
noncomputable def aij (n:Nat):bm:={C:={eM n with iZ:=λd=>Nat.beq d 6,mq:=λd=>Nat.beq d 6},CC:=bO Tryz.prog GG,b9:=λ_ _ _ _=>none,inv:=λ_=>none}
theorem zs8 (n:Nat):ct {eM n with iZ:=λd=>Nat.beq d 6,mq:=λd=>Nat.beq d 6}:=ll (by kernel_rfl)
def oEa:FuncId ->List AV ->Option AV
 |161,[.seq _ n f]=>some (fg N (zw n f))
 |_,_=>none
noncomputable def ZN (N:Nat ->Prop) (n:Nat):bu:={eM n with G:=GN N,nU:=c6 Tryz.prog (GN N),Vs:=aab,mU:=λf d=>Nat.beq f 161&&(Nat.beq d 7 || (Nat.beq d 10 || Nat.beq d 13))}
theorem zuw (n:Nat):ct (ZN N n):=ll (by kernel_rfl)
noncomputable def vEa (N:Nat ->Prop) (n:Nat) (inv:Nat ->Option Inv):bm:={C:=ZN N n,CC:=bO Tryz.prog (GN N),b9:=λ_ _=>oEa N,inv:=inv}
def aky (m:Mem) (k:Nat):Option Inv:=match Nat.beq k 3 with
 |true=>iv m.a6.length λi=>⟨[(1, .ptr 1 []),(2, .ptr 2 []),(3, .ptr 3 []),(4, .int .i64 i)],[(1,iY m),(2,iY du),(3, .cell 32 zm (.agg [.own 7 m.vars.length, .own 10 m.aa.length, .own 31 (m.a6.take i).length, .own 13 m.sig.length])),(7,bw m.vars),(10,bw m.aa),(31,ZE N (m.a6.take i)),(13,bw m.sig)]⟩
 |false=>none
noncomputable def zzg (N:Nat ->Prop) (m:Mem):Prop:=z6v (vEa N 34 (aky N m)) Tryz.f101 [vM m] (va m) (abd N m)
end Go.Proofs.S25
namespace Go.Proofs.S25
open Go Go.AV Go.RowKit
open Go.IntKind renaming i64 -> j6
open Go.AV.Shape (leaf)
noncomputable section
variable {N:Nat ->Prop} {f:FuncId} {args:List AV}
theorem aia:KN 161 [a8 []] .ax:=by
 refine Kn (aij 7) Tryz.func161 ((0:Nat)=(0:Nat)/\True) ?_
 exact⟨rfl,trivial⟩
theorem more {r:AV} (h:KN f args r):bO Tryz.prog (GN N) f args r:=
 h.imp_left λh=>⟨h.1,λw F vs a b=>h.2 w F vs a λg x hg=>b g x (zju hg)⟩
theorem Mh {r:AV} {cs:List ar} (h:KF f args r cs):c6 Tryz.prog (GN N) f args r cs:=
 ⟨h.1,λw F vs a b=>h.2 w F vs a λg x hg=>b g x (zju hg)⟩
theorem agq {ty:TypeId} {sh:Shape} {n:Nat} {g:Nat ->AV} (h:KF f args (.own 0 n) [.row ty sh n g]) (h0:0<n):bO Tryz.prog (GN N) f args (.cz N sh n g):=by
 refine .inl ⟨h.1,λw F vs hro hgl hsz hr=>(h.2 w F vs hro (λg x hg=>hgl g x (zju hg)) hsz hr).mono ?_⟩
 rintro en w' ⟨v,F',φ',rfl,hb,f1,f2,f3,hv,hbox,_⟩
 have hcov:∀ k,F k∨N k:=by
  have :=hgl aaj (.jS N) rfl
  cases this with |jS _ _ _ h=>exact h
 obtain⟨hsh,_,⟨h1,h2⟩ | ⟨g',cs,hg',hB,hnF,hh,hcs,hnc,_,hrep⟩⟩:=hbox 0 _ rfl
 . omega
 rcases hv.dw with⟨g2,hg,rfl,hc⟩ | ⟨hg,_,_⟩
 . rw[hg']at hg
   cases hg
   refine⟨_,λk=>F' k∨k=g',rfl,hb,λk hk=> .inl (f1 k hk),λk hk=>hk.elim (f2 k) λe=> .inr (e ▸ hB),λk hk=>hk.elim (f3 k) λe=>e ▸ (xj.1 hh).1, ?_⟩
   have lt:∀ i,i<n ->∀ j,j<sh.size ->i*sh.size+j<(φ' 0).cap*sh.size:=λi hi j hj=>by
    have hmul:=xn sh.size (show i+1<=(φ' 0).cap by omega)
    rw[y7]at hmul;omega
   refine .cz N g' 0 n _ sh g (λi j=>cs.getD (i*sh.size+j) undef) (.inr rfl) ((hcov g').resolve_left λhF=>hnF (f1 _ hF)) ⟨rfl,h0,cs,_,hh,by rw[hcs];exact xm _⟩ hc (λi hi j hj=>?_) λi hi j hj=>?_
   . rw[xw];exact nq hh (by rw[hcs];exact lt i hi j hj)
   . exact(hrep i hi j hj).keep (λ_ _=>rfl) λk hk=> .inl hk
 . rw[hg']at hg;cases hg
theorem aju (N:Nat ->Prop) (l:List Int) (hl:l.length<=1000000):bO Tryz.prog (GN N) 161 [a8 l] (fg N l):=by
 cases l with
 |nil=>exact(more aia).imp λw F v h=>by cases h;exact .fJ _ _ _
 |cons x l=>exact agq (nF (x::l) hl) (by simp)
section
variable (N:Nat ->Prop) (m:Mem) (x2:Nat) (x3:Nat)
def qtj:=fg N ((List.take x2 m.a6).getD x3 [])
end
theorem alo (N:Nat->Prop) (m:Mem):zzg N m=((c6 Tryz.prog (GN N) (161:Nat) [a8 m.vars] (AV.own (0:Nat) m.vars.length) [ar.row (3:TypeId) leaf (ql m) λi=>qu m i])/\(c6 Tryz.prog (GN N) (161:Nat) [a8 m.aa] (AV.own (0:Nat) m.aa.length) [ar.row (3:TypeId) leaf (qm m) λi=>qv m i])/\(c6 Tryz.prog (GN N) (161:Nat) [a8 m.sig] (AV.own (0:Nat) m.sig.length) [ar.row (3:TypeId) leaf (qk m) λi=>qo m i])/\(∃ (i:Nat),i<=List.length (Mem.a6 m)/\(0:Int)=(↑i:Int)/\LS (aj m) (aj m)/\((0:Nat)=(0:Nat)/\(0:Nat)=(0:Nat)/\(0:Nat)=(0:Nat)/\(0:Nat)=(0:Nat))/\(RR (List.length (Mem.vars m))/\RR (List.length (Mem.aa m))/\oi m i/\RR (List.length (Mem.sig m)))/\(ql m=List.length (Mem.vars m)/\∀ (i:Nat),i<ql m->qu m i=AV.int j6 (List.getD (Mem.vars m) i (0:Int)))/\(qm m=List.length (Mem.aa m)/\∀ (i:Nat),i<qm m->qv m i=AV.int j6 (List.getD (Mem.aa m) i (0:Int)))/\oi m i/\qk m=List.length (Mem.sig m)/\∀ (i:Nat),i<qk m->qo m i=AV.int j6 (List.getD (Mem.sig m) i (0:Int)))/\∀ i:Nat,i<=m.a6.length->↑m.a6.length<=(9223372036854775807:Int)/\(qj m i=true->af (↑i) m.a6.length/\(bO Tryz.prog (GN N) (161:Nat) [a8 (m.a6.getD (↑i:Int).toNat [])] (AV.cz N leaf (vg m i).length λi_1=>AV.int j6 ((vg m i).getD i_1 (0:Int))))/\1*leaf.size<=16777216/\(RR (List.take i m.a6).length/\↑(lU m i)*↑(24:Nat)<=(140737488355328:Int)/\lU m i<=9223372036854775807)/\1<=1/\aM j6 (q9 i)/\(∃ (j:Nat),j<=List.length (Mem.a6 m)/\qi m j<qi m i/\q9 i=(↑j:Int)/\LS (aj m) (aj m)/\(vK/\vK/\(RR ((0:Nat))/\∀ (i:Nat),i<(0:Nat)->RR (a8 (List.getD [] i [])))/\vK)/\(RR (List.length (Mem.vars m))/\RR (List.length (Mem.aa m))/\oH m i j/\RR (List.length (Mem.sig m)))/\lp m/\lg m/\(oH m i j/\∀ (i_1:Nat),i_1<lU m i->(if i_1<List.length (List.take i (Mem.a6 m))then qtj N m i i_1 else List.getD (List.set (List.replicate (1:Nat) AV.ax) (0:Nat) (aq (fg N (vg m i)))) (i_1 - List.length (List.take i (Mem.a6 m))) AV.any)=qtj N m j i_1)/\mw m))/\(qj m i=false->(RR m.vars.length/\RR m.aa.length/\uP m i/\RR m.sig.length)/\lp m/\lg m/\(uP m i/\∀ (i_1:Nat),i_1<(List.take i m.a6).length->qtj N m i i_1=fg N (m.a6.getD i_1 []))/\mw m)):=by kernel_rfl
theorem aim (N:Nat ->Prop) (m:Mem) (hm:dk m):c6 Tryz.prog (GN N) 101 [vM m] (va m) (abd N m):=by
 refine c6.of (V:=vEa N 34 (aky N m)) (fn:=Tryz.f101) Tryz.func101 (by kernel_rfl) (zuw N 34) rfl ?_
 show zzg N m
 rw[alo];try delta sQ ql qu tZ qm qv qB qk qo oi vg lU q9 qi vK oH lp lg qtj mw qj uP
 simp only[SB,af]
 simp only[oR,w8,wg,w6,iL]
 have s3:=hm.a6
 refine⟨Mh (nF _ hm.vars),Mh (nF _ hm.aa),Mh (nF _ hm.sig),⟨0,by omega,rfl,by simp⟩,λi hi=>⟨by omega,λhlt=>?_,λhge=>?_⟩⟩
 . have hn:(m.a6.take i).length=i:=by rw[xr];omega
   have e:m.a6.take (i+1)=m.a6.take i++[m.a6.getD i []]:=by
    rw[ja,x7,xe hlt];rfl
   refine⟨hlt,aju N _ (hm.q i),by decide,⟨by omega,by omega⟩,za (by omega) (by omega),i+1,by omega,by omega,by omega, ?_⟩
   rw[e];exact⟨by simp,by simp,λj hj=>nS (fg N) _ [] _ _ j hj⟩
 . rw[xu (by omega)];exact⟨rfl,rfl,λ_ _=>rfl⟩
end
end Go.Proofs.S25
namespace Go.AV
open Go.RowKit
theorem zux {P:Program} {id:Nat} {ops:Array Oper} {Q:Exit ->Act ->World ->Prop} {a:Act} {w:World} (I:(Nat ->Bool) ->Act ->World ->Prop)
 (hedge:(sj .any ops.toList&&(sj .text ops.toList&&sj .gc ops.toList))=true) (h0:I (λ_=>false) a {w with drawn:=w.drawn+1})
 (hstep:∀ (D:Nat ->Bool) (i:Nat) (o:Oper) (a:Act) (w:World),ops[i]? =some o ->D i=false ->(∀ e∈o.after.toList,Region.binds .any e=true ->D e.on=true) ->I D a w ->
  o.guard=none/\o.wp P a w (I λk=>D k || Nat.beq k i) Q)
 (hfin:∀ (D:Nat ->Bool) (a:Act) (w:World),(∀ k,k<ops.size ->D k=true) ->I D a w ->Q .normal a w):(Code.region id ops true).wp P Q a w:=by
 have key:∀ md (fuel:Nat) (U:List Nat) (listed:Array Bool) (a:Act) (w:World),U.length=fuel ->U.Nodup ->listed.size=ops.size ->(∀ k,k<ops.size ->(listed.getD k true=false↔k∈U)) ->
  I (λk=>listed.getD k false) a w ->wpAny P md ops Q fuel listed a w:=by
  intro md
  have anyB:∀ e:Edge,Region.binds .any e=true ->Region.binds md e=true:=by
   intro e he
   obtain⟨on,g⟩:=e
   cases g<;>simp_all [Region.binds]
  have ready:∀ (listed:Array Bool) (i:Nat),listed.size=ops.size ->(i∈Region.ready md ops listed↔∃ o,ops[i]? =some o/\listed.getD i true=false/\∀ e∈o.after.toList,Region.binds md e=true ->listed.getD e.on false=true):=by
   intro listed i hsz
   simp only[Region.ready,yh,yl,xa,xi]
   constructor
   . rintro⟨h1,h2,h3⟩
     have ho:ops[i]? =some ops[i]:=by simp[h1]
     rw[ho]at h3
     simp only[gj,yj,j3]at h3
     exact⟨_,ho,h2,λe he hb=>by
      have :=h3 e (by simpa using he)
      simpa [hb]using this⟩
   . rintro⟨o,ho,h2,h3⟩
     refine⟨(xj.1 ho).1,h2, ?_⟩
     rw[ho]
     simp only[gj,yj,j3]
     intro e he
     by_cases hb:Region.binds md e=true
     . simp[h3 e (by simpa using he) hb]
     . simp[hb]
  have getDs:∀ (listed:Array Bool) (k:Nat),k<listed.size ->listed.getD k true=listed.getD k false:=by
   intro l k hk
   simp[xb,hk]
  have stop:∀ (listed:Array Bool),listed.size=ops.size ->Region.ready md ops listed=[] ->∀ k,k<ops.size ->listed.getD k false=true:=by
   intro listed hsz hr
   have hmd:sj md ops.toList=true:=by
    simp only[xa]at hedge
    cases md<;>first |exact hedge.1 |exact hedge.2.1 |exact hedge.2.2
   obtain⟨rk,hrk⟩:=zao hmd
   suffices h:∀ (r k:Nat),rk k=r ->k<ops.size ->listed.getD k false=true from λk=>h _ k rfl
   intro r
   induction r using Nat.strongRecOn with
   |_ r ih=>
    intro k hkr hk
    cases hl:listed.getD k false with
    |true=>rfl
    |false=>
     have ho:ops[k]? =some ops[k]:=by simp[hk]
     have :k∈Region.ready md ops listed:=(ready listed k hsz).2 ⟨_,ho,by rw[getDs _ _ (by omega)];exact hl,λe he hb=>by
      obtain⟨h1,h2⟩:=hrk k _ (by simp) e he hb
      exact ih (rk e.on) (by omega) e.on rfl (by simpa using h2)⟩
     rw[hr]at this;cases this
  intro fuel
  induction fuel with
  |zero=>
   intro U listed a w hU _ hsz hl hI
   obtain rfl:U=[]:=xz hU
   have hr:Region.ready md ops listed=[]:=by
    cases hrr:Region.ready md ops listed with
    |nil=>rfl
    |cons i l=>
     obtain⟨o,ho,h2,_⟩:=(ready listed i hsz).1 (by rw[hrr];simp)
     have :=(hl i (xj.1 ho).1).1 h2
     cases this
   exact⟨hr,hfin _ a w (stop listed hsz hr) hI⟩
  |succ fuel ih=>
   intro U listed a w hU hnd hsz hl hI
   refine⟨λhr=>hfin _ a w (stop listed hsz hr) hI,λi hi=>?_⟩
   obtain⟨o,ho,h2,h3⟩:=(ready listed i hsz).1 hi
   have hin:i<ops.size:=(xj.1 ho).1
   obtain⟨hg,hw⟩:=hstep _ i o a w ho (by rw[<- getDs _ _ (by omega)];exact h2) (λe he hb=>h3 e he (anyB e hb)) hI
   have hD:(λk=>listed.getD k false || Nat.beq k i)=λk=>(listed.setIfInBounds i true).getD k false:=by
    funext k
    simp only[xb,gn]
    by_cases hk:i=k
    . subst hk;simp[show i<listed.size by omega]
    . have :Nat.beq k i=false:=by
       cases e:Nat.beq k i with
       |false=>rfl
       |true=>exact absurd (xc e).symm hk
      simp[hk,this]
   unfold wpOp
   rw[ho]
   simp only[]
   rw[x9 (by simp[Region.wanted,hg])]
   refine .inl (Oper.wp_mono (λa' w' hI'=>?_) hw)
   rw[hD]at hI'
   have iU:i∈U:=(hl i hin).1 h2
   refine ih (U.erase i) _ a' w' (by rw[List.length_erase_of_mem iU,hU];rfl) (hnd.erase i) (by simpa using hsz) (λk hk=>?_) hI'
   rw[hnd.mem_erase_iff,<- hl k hk]
   simp only[xb,gn]
   by_cases hki:i=k
   . subst hki;simp[show i<listed.size by omega]
   . simp[hki,jh hki]
 have start:∀ md,wpAny P md ops Q ops.size (Array.replicate ops.size false) a {w with drawn:=w.drawn+1}:=by
  intro md
  have hno:(λk=>(Array.replicate ops.size false).getD k false)=λ_=>false:=by
   funext k
   simp only[xb,Array.getElem?_replicate]
   split<;>simp
  refine key md ops.size (List.range ops.size) _ a _ (by simp) List.nodup_range (by simp) (λk hk=>?_) (by rw[hno];exact h0)
  simp[xb,hk]
 refine wp_region_draw λt=>?_
 unfold Region.schedule
 split
 . exact wpAny_sound _ _ _ _ _ (start .any)
 . exact wpAny_sound _ _ _ _ _ (start _)
end Go.AV
namespace Go.Proofs.S25
open Go Go.AV Go.RowKit
variable {w:World} {w':World} {F:Nat ->Prop} {F':Nat ->Prop} {v:Value} (N:Nat ->Prop) (m:Mem) (c:Int) (id:Int)
def zjv:Nat ->Code ->Code
 |0, .seq a _=>a
 |k+1, .seq a b=> .seq a (zjv k b)
 |_,_=> .skip
def vY:Nat ->Code ->Code
 |0, .seq _ b=>b
 |k+1, .seq _ b=>vY k b
 |_,c=>c
theorem zs9 {V:bm} {W0:AV.Entry} {F0:Nat ->Prop} {Post:Exit ->Act ->World ->Prop} (hT:ct V.C) (hCC:dW V.C V.CC) (hV:∀ k,V.cut k=none):∀ (k:Nat) (c:Code) (st:St) (Q:Exit ->St ->Prop) (a:Act) (w:World) (F:Nat ->Prop) (φ:Nat ->AV.Place),vc V (zjv k c) st Q ->Rel V.C W0 F0 st a w F φ ->
 (∀ e st' a w F φ,Rel V.C W0 F0 st' a w F φ ->Q e st' ->Exit.then ((vY k c).wp V.C.P Post) Post e a w) ->c.wp V.C.P Post a w:=by
 intro k
 induction k with
 |zero=>
  intro c st Q a w F φ h hR hK
  cases c with
  |seq x y=>exact wp_seq (wp_mono (YL hT hCC x st Q a w F φ h hR) λe a w ⟨st',F',φ',h1,h2⟩=>hK e st' a w F' φ' h1 h2)
  |_=>exact hK .normal st a w F φ hR h
 |succ k ih=>
  intro c st Q a w F φ h hR hK
  cases c with
  |seq x y=>
   refine wp_seq (wp_mono (YL hT hCC x st _ a w F φ (zv2 hV h) hR) ?_)
   rintro e a' w' ⟨st',F',φ',h1,h2⟩
   cases e with
   |normal=>exact ih y st' Q a' w' F' φ' h2 h1 hK
   |_=>exact hK _ st' a' w' F' φ' h1 h2
  |_=>exact hK .normal st a w F φ hR h
theorem zbj {k:Int} (h:au w F v (.int .i64 k)):v= .int .i64 k/\aM .i64 k:=by
 cases h with |int _ _ h=>exact⟨rfl,h⟩
def qU:AV ->Bool
 | .any | .int _ _ | .bool _ | .ax | .dj | .own _ _ | .ptr _ _ | .bq _ _ _=>true
 |_=>false
theorem zg3 {x:AV} (h:au w F v x) (hx:qU x=true):au w' F' v x:=by
 cases h with
 |any _ h=>exact .any _ h
 |int _ _ h=>exact .int _ _ h
 |bool=>exact .bool _
 |ax=>exact .ax
 |dj=>exact .dj
 |_=>exact absurd hx Bool.false_ne_true
theorem zsa {φ:Nat ->AV.Place} {v:Value} {x:AV} (h:aG w F φ v x) (hx:qU x=true):aG w' F' φ v x:=by
 cases h with
 |stat h=>exact .stat (zg3 h hx)
 |own b g n hb hn=>exact .own b g n hb hn
 |gX b hb=>exact .gX b hb
 |ptr b g p hb hp=>exact .ptr b g p hb hp
 |bq b g i p hb hp=>exact .bq b g i p hb hp
 |_=>exact absurd hx Bool.false_ne_true
def WM:List (Nat×AV) ->List (Nat×AV)
 | []=>[]
 | (k,x)::l=>(k,match qU x with |true=>x |false=> .when false .any)::WM l
theorem zsb:∀ {l:List (Nat×AV)} {s:Nat} {x:AV},AV.get (WM l) s=some x ->∃ y,AV.get l s=some y/\((x=y/\qU y=true)∨x= .when false .any)
 | (k,y)::l,s,x,h=>by
  simp only[WM,AV.get]at h ⊢
  split at h
  . rename_i e
    cases h
    refine⟨y,rfl, ?_⟩
    cases hy:qU y<;>simp
  . exact zsb h
theorem zsc {s:Nat} {x:AV} (hx:qU x=true):∀ {l:List (Nat×AV)},AV.get l s=some x ->AV.get (WM l) s=some x
 | (k,y)::l,h=>by
  simp only[WM,AV.get]at h ⊢
  split at h
  . cases h;rw[hx]
  . exact zsc hx h
def hlC:ar ->Prop
 | .cell _ sh x=>∀ j,j<sh.size ->qU (z6 sh x j)=true
 | .row _ sh n f=>∀ i,i<n ->∀ j,j<sh.size ->qU (z6 sh (f i) j)=true
theorem z24.hl {φ:Nat ->AV.Place} {B:Nat ->Prop} {b:Nat} {c:ar} (h:z24 w F φ B b c) (hc:hlC c) (hg:∀ g,(φ b).bV=some g ->w'.heap[g]? =w.heap[g]? /\¬ F' g):z24 w' F' φ B b c:=by
 cases c with
 |cell tc sh x=>
  obtain⟨h0,g,cs,h1,h2,h3,h4,h5,h6⟩:=h
  exact⟨h0,g,cs,h1,h2,(hg g h1).2,(hg g h1).1.trans h4,h5,λj hj=>zsa (h6 j hj) (hc j hj)⟩
 |row ty sh n f=>
  obtain⟨h0,h0',h⟩:=h
  refine⟨h0,h0',h.imp id ?_⟩
  rintro⟨g,cs,h1,h2,h3,h4,h5,h6,h7,h8⟩
  exact⟨g,cs,h1,h2,(hg g h1).2,(hg g h1).1.trans h4,h5,h6,h7,λi hi j hj=>zg3 (h8 i hi j hj) (hc i hi j hj)⟩
def ZM (l:List (Nat×AV)):Operand ->Bool
 | .tmp t=>(AV.get l t).isSome
 |_=>true
theorem zuy {l:List (Nat×AV)} {s:Nat} {need:List Operand} (h:tA s need=true) (hc:need.all (ZM l)=true):∃ y,AV.get l s=some y:=by
 induction need with
 |nil=>cases h
 |cons x r ih=>
  simp only[List.all_cons,xa]at hc
  cases x with
  |tmp t=>
   simp only[tA,xk]at h
   rcases h with h |h
   . have :=xc h
     subst this
     exact Option.isSome_iff_exists.1 hc.1
   . exact ih h hc.2
  |_=>exact ih h hc.2
structure OpF (C:bu) (CC:FuncId ->List AV ->AV ->Prop) (ops:Array Oper) (H:List (Nat×ar)) (i:Nat) (o:Oper) (l:List (Nat×AV)) (x:AV) (ps:List Prop) (need:List Operand):Prop where
 hs:lh C CC (λ_ _=>none) ops.toList ⟨l,H⟩ o=some (⟨AV.put l (28+i) x,H⟩,ps)
 g:gT C ⟨l,H⟩ o=false
 n:ml C o=false
 wr:cV C ⟨l,H⟩ o=[]
 d:o.dst=some (28+i)
 rd:∀ s,wM ops.toList o s=(tA s need || false)
 jS:need.all (ZM l)=true
 gd:o.guard=none
section
variable {C:bu} {CC:FuncId ->List AV ->AV ->Prop} {W0:AV.Entry} {F0:Nat ->Prop} {a:Act} {w:World} {F:Nat ->Prop} {φ:Nat ->AV.Place} {ops:Array Oper} {H:List (Nat×ar)} {i:Nat} {o:Oper} {l env:List (Nat×AV)} {x:AV} {ps:List Prop} {need:List Operand} {K:Act ->World ->Prop} {Q:Exit ->Act ->World ->Prop}
theorem OpF.go (h:OpF C CC ops H i o l x ps need) (hps:∀ p∈ps,p) (hT:ct C) (hCC:dW C CC) (hR:Rel C W0 F0 ⟨env,H⟩ a w F φ) (hl:∀ s y,AV.get l s=some y ->AV.get env s=some y)
 (hK:∀ env' a' w' F' φ',Rel C W0 F0 ⟨env',H⟩ a' w' F' φ' ->AV.get env' (28+i)=some x ->(∀ s,s≠28+i ->AV.get env' s=AV.get env s) ->K a' w'):o.wp C.P a w K Q:=by
 have hal:de C ops.toList o ⟨l,H⟩ ⟨env,H⟩:=⟨λs hs=>by
  rw[h.rd,Bool.or_false]at hs
  obtain⟨y,hy⟩:=zuy hs h.jS
  exact hy.trans (hl s y hy).symm,λ_ _=>rfl⟩
 obtain⟨s2,h1,h2,_⟩:=z95 hal h.g h.hs λhn=>by rw[h.n]at hn;cases hn
 obtain⟨f1,f2⟩:=Ay (z4v hal ▸ h.g) h1
 have hw:cV C ⟨env,H⟩ o=[]:=z6f hal ▸ h.wr
 have :=C0 (Q:=Q) (ops:=ops) (K:=K) hR hT hCC h1 hps λa' w' F' φ' hR'=>hK s2.env a' w' F' φ' (hR'.alike (S':=⟨s2.env,H⟩) (λ_=>rfl) λb=>(f2 b (by rw[hw];exact yv)).symm)
  (by rw[h2 _ h.d];exact zv _ _ _) λs hs=>f1 s (by rw[h.d];exact λe=>hs (gk e).symm)
 rw[x9 (by simp[Region.wanted,h.gd])]at this
 exact this
end
abbrev mr:Mem:={m with a6:=m.a6.set c.toNat (m.a6.getD c.toNat []++[id])}
noncomputable def uY:Code:=match Tryz.f97.body with
 |some c=>c
 |none=> .skip
noncomputable def gJ:Array Oper:=match vY 4 uY with
 | .seq (.region _ ops _) _=>ops
 |_=>#[]
noncomputable def o8 (i:Nat):Oper:=(gJ[i]?).getD default
def oEr (k:Nat):FuncId ->List AV ->Option AV
 |148,_=>some (.bool (match Nat.beq k 1 with |true=>ca m |false=>ca (mr m c id)))
 |101,_=>some (va m)
 |_,_=>none
def aj4:FuncId ->List AV ->Option (List ar)
 |101,_=>some (abd N m)
 |_,_=>none
noncomputable def kb (N:Nat ->Prop) (m:Mem) (n:Nat):bu:={eM n with G:=GN N,fresh:=aj4 N m,nU:=c6 Tryz.prog (GN N),iZ:=λd=>Nat.beq d 37 || Nat.beq d 38}
theorem Cq (n:Nat):ct (kb N m n):=ll (by kernel_rfl)
noncomputable def Yt (N:Nat ->Prop) (m:Mem) (c id:Int) (n:Nat) (fz:Nat ->List Nat):bm:={C:=kb N m n,CC:=bO Tryz.prog (GN N),b9:=λk _=>oEr m c id k,inv:=λ_=>none,fz:=fz}
def aa8:AV:= .agg [.own 114688 m.vars.length, .own 114689 m.aa.length, .own 114690 m.a6.length, .own 114691 m.sig.length]
def HQ (f:Nat ->AV):List (Nat×ar):=[(8, .cell 32 zm (aa8 m)),(114688,bw m.vars),(114689,bw m.aa),(114690, .row 29 .leaf m.a6.length f),(114691,bw m.sig),(6, .cell 32 zm (.agg [.ax, .ax, .ax, .ax]))]
def fN (j:Nat):AV:=fg N (m.a6.getD j [])
def fU (j:Nat):AV:=if j=c.toNat then .any else fN N m j
def S7:St:=⟨[(8, .ptr 8 []),(6, .ptr 6 []),(1, .int .i64 c),(2, .int .i64 id)],HQ m (fN N m)⟩
def S8:St:=⟨[(8, .ptr 8 []),(6, .ptr 6 [])],HQ m λj=>a8 (m.a6.getD j [])⟩
def SR:St:=⟨[(6, .ptr 6 []),(7, .int .i64 (aZ m c id).2)],[(6,iY (aZ m c id).1)]⟩
def fzR (k:Nat):List Nat:=match Nat.beq k 11 with
 |true=>[114688,114689,114690,114691]
 |false=>[]
noncomputable def zzh (N:Nat ->Prop) (m:Mem) (c id:Int):Prop:=fL (Yt N m c id 45 λ_=>[]) (zjv 4 uY) ⟨z87 0 [vM m, .int .i64 c, .int .i64 id],[]⟩ (some (ca m=true/\bC m c m.a6.length=0/\¬ id<0,S7 N m c id)) none (some (True,SR m c id))
noncomputable def zsd (N:Nat ->Prop) (m:Mem) (c id:Int):Prop:=fL (Yt N m c id 45 fzR) (vY 5 uY) (S8 (mr m c id)) none none (some (True,SR m c id))
end Go.Proofs.S25
namespace Go.Proofs.S25
open Go Go.AV Go.RowKit
open Go.IntKind renaming i64 -> j6
open Go.AV.Shape (leaf)
noncomputable section
theorem ah0 (N:Nat->Prop) (m:Mem) (c id:Int):zzh N m c id=(bO Tryz.prog (GN N) (148:Nat) [AV.mc zm (aj m)] (AV.bool (ca m))/\((!ca m)=true->True/\1=(aZ m c id).snd/\vw m c id)/\((!ca m)=false->lq c/\lq c/\(yD c->↑m.a6.length<=(9223372036854775807:Int))/\lq c/\lq c/\lq c/\(uo m c=true->True/\11=(aZ m c id).snd/\vw m c id)/\(uo m c=false->(pw id=true->True/\2=(aZ m c id).snd/\vw m c id)/\(pw id=false->(c6 Tryz.prog (GN N) (101:Nat) [AV.mc zm (aj m)] (AV.mc zm (AV.agg [AV.own (0:Nat) m.vars.length,AV.own (1:Nat) m.aa.length,AV.own (2:Nat) m.a6.length,AV.own (3:Nat) m.sig.length])) [ar.row (3:TypeId) leaf m.vars.length λi=>AV.int j6 (m.vars.getD i (0:Int)),ar.row (3:TypeId) leaf m.aa.length λi=>AV.int j6 (m.aa.getD i (0:Int)),ar.row (29:TypeId) leaf m.a6.length λi=>fg N (m.a6.getD i []),ar.row (3:TypeId) leaf m.sig.length λi=>AV.int j6 (m.sig.getD i (0:Int))])/\(ca m=true/\bC m c ↑m.a6.length=0/\¬id<0)/\(RR c/\RR id)/\(RR m.vars.length/\RR m.aa.length/\RR m.a6.length/\RR m.sig.length)/\(RR m.vars.length/\∀ i:Nat,i<m.vars.length->RR (AV.int j6 (m.vars.getD i 0)))/\(RR m.aa.length/\∀ i:Nat,i<m.aa.length->RR (AV.int j6 (m.aa.getD i 0)))/\(RR m.a6.length/\∀ i:Nat,i<m.a6.length->fg N (m.a6.getD i [])=fN N m i)/\RR m.sig.length/\∀ i:Nat,i<m.sig.length->RR (AV.int j6 (m.sig.getD i 0)))))):=by kernel_rfl
section
variable (m:Mem) (c:Int) (id:Int)
def qtk:List (List Int):=m.a6.set c.toNat (m.a6.getD c.toNat []++[id])
def Z3:Nat:=(qtk m c id).length
def qtl:=Z3 m c id<=Z3 m c id
end
theorem acf (N:Nat->Prop) (m:Mem) (c id:Int):zsd N m c id=(bO Tryz.prog (GN N) (148:Nat) [AV.mc zm (AV.agg [a8 m.vars,a8 m.aa,aE (qtk m c id),a8 m.sig])] (AV.bool (ca (mr m c id)))/\m.vars.length<=m.vars.length/\m.aa.length<=m.aa.length/\qtl m c id/\m.sig.length<=m.sig.length/\((!ca (mr m c id))=true->True/\30=(aZ m c id).snd/\(aZ m c id).fst.vars.length=0/\(aZ m c id).fst.aa.length=0/\(aZ m c id).fst.a6.length=0/\(aZ m c id).fst.sig.length=0)/\((!ca (mr m c id))=false->m.vars.length<=m.vars.length/\m.aa.length<=m.aa.length/\qtl m c id/\m.sig.length<=m.sig.length/\m.vars.length<=m.vars.length/\m.aa.length<=m.aa.length/\qtl m c id/\m.sig.length<=m.sig.length/\True/\0=(aZ m c id).snd/\(m.vars.length=(aZ m c id).fst.vars.length/\∀ i:Nat,i<m.vars.length->AV.int j6 (m.vars.getD i 0)=AV.int j6 ((aZ m c id).fst.vars.getD i 0))/\(m.aa.length=(aZ m c id).fst.aa.length/\∀ i:Nat,i<m.aa.length->AV.int j6 (m.aa.getD i 0)=AV.int j6 ((aZ m c id).fst.aa.getD i 0))/\(Z3 m c id=(aZ m c id).fst.a6.length/\∀ i:Nat,i<Z3 m c id->a8 ((qtk m c id).getD i [])=a8 ((aZ m c id).fst.a6.getD i []))/\m.sig.length=(aZ m c id).fst.sig.length/\∀ i:Nat,i<m.sig.length->AV.int j6 (m.sig.getD i 0)=AV.int j6 ((aZ m c id).fst.sig.getD i 0))):=by kernel_rfl
theorem ajt:vY 4 uY= .seq (.region 8 gJ true) (vY 5 uY):=by kernel_rfl
theorem zuz (l:List (List Int)) (x:Int):∀ c,c<l.length ->(l.set c (l.getD c []++[x])).flatten.Perm (x::l.flatten):=by
 induction l with
 |nil=>intro c hc;exact absurd hc (jo _)
 |cons q l ih=>
  intro c hc
  cases c with
  |zero=>
   simp only[List.set_cons_zero,wx,List.flatten_cons,wq,List.singleton_append]
   exact List.perm_middle
  |succ c=>
   simp only[List.set_cons_succ,wb,List.flatten_cons]
   exact((ih c (by simpa using hc)).append_left q).trans List.perm_middle
theorem zzi (m:Mem) (c id:Int) (hc:c.toNat<m.a6.length):(allI (mr m c id)).Perm (id::allI m):=
 ((zuz m.a6 id c.toNat hc).append_left m.sig).trans List.perm_middle
theorem zse (m:Mem) (id:Int):nt m id=true↔id∈allI m:=by
 unfold nt allI aQ
 simp only[xk,ge,List.contains_iff_mem,xx,List.mem_flatten]
 exact Or.comm
theorem aja {m:Mem} {c id:Int} (hm:ca m=true) (hc:c.toNat<m.a6.length) (hid:0<=id):ca (mr m c id)=!nt m id:=by
 have M:=uE.1 hm
 have P:=zzi m c id hc
 rw[wk,xi,<- gl,zse,uE]
 constructor
 . intro E
   have :=P.nodup_iff.1 E.nd
   exact(List.nodup_cons.1 this).1
 . intro h
   refine⟨M.vars,M.aa,by show(m.a6.set _ _).length<=4;rw[yy];exact M.a6,M.mO,M.uZ,M.own,λx hx=>?_,P.nodup_iff.2 (List.nodup_cons.2 ⟨h,M.nd⟩)⟩
   rcases xv.1 (P.mem_iff.1 hx)with rfl |h
   . exact hid
   . exact M.pos x h
theorem aic (N:Nat ->Prop) (m:Mem) (c id:Int) (hm:dk m):zzh N m c id:=by
 rw[ah0];try delta vw qj1 yD lq uo pw
 simp only[SB,af]
 have s3:=hm.a6
 have bad:∀ n:Int,aZ m c id=(du,n) ->n=(aZ m c id).2/\(aZ m c id).1.vars.length=0/\(aZ m c id).1.aa.length=0/\(aZ m c id).1.a6.length=0/\(aZ m c id).1.sig.length=0:=λn h=>by rw[h];exact⟨rfl,rfl,rfl,rfl,rfl⟩
 refine⟨more (lu m hm),λh=>bad _ (by unfold aZ;rw[zhp h,x9 (by decide)]),λh=>⟨λ_=>by omega,λh1=>bad _ (by unfold aZ;rw[po h,x9 h1,x9 (by decide)]),λh1=>?_⟩⟩
 have h0:bC m c m.a6.length=0:=by rw[po h,x8 (by omega)]
 exact⟨λh2=>bad _ (by unfold aZ;rw[x8 (λe=>e h0),x9 h2]),λh2=>⟨aim N m hm,⟨h,h0,h2⟩,λ_ _=>rfl⟩⟩
theorem ajx (N:Nat ->Prop) (m:Mem) (c id:Int) (hm:dk m) (hf:ca m=true) (hi:bC m c m.a6.length=0) (hn:¬ id<0):zsd N m c id:=by
 rw[acf];try delta qtk Z3 qtl
 simp only[SB,af]
 have hc:=(kM hi).2
 have hf2:=aja hf (c:=c) (id:=id) (by omega) (by omega)
 have P:=(zzi m c id (by omega)).length_eq
 have s5:=hm.all
 refine⟨more (aaz (mr m c id) hm.vars hm.aa (by show(m.a6.set _ _).length<=_;rw[yy];exact hm.a6) hm.sig (by rw[P];simp only[yp];omega)),λh=>?_,λh=>?_⟩
 . rw[hf2]at h
   have e:aZ m c id=(du,30):=by unfold aZ;rw[x8 (λe=>e hi),x8 hn,x9 (by simpa using h)]
   rw[e];exact⟨rfl,rfl,rfl,rfl,rfl⟩
 . rw[hf2]at h
   have e:aZ m c id=(mr m c id,0):=by unfold aZ;rw[x8 (λe=>e hi),x8 hn,x8 (by simpa using h)]
   rw[e];exact⟨rfl,⟨rfl,λ_ _=>rfl⟩,⟨rfl,λ_ _=>rfl⟩,⟨rfl,λ_ _=>rfl⟩,rfl,λ_ _=>rfl⟩
end
end Go.Proofs.S25
namespace Go.Proofs.S25
open Go Go.AV Go.RowKit
section
variable {N:Nat ->Prop} {m:Mem} {c id:Int} {W0:AV.Entry} {F0:Nat ->Prop} {a:Act} {w:World} {F:Nat ->Prop} {φ:Nat ->AV.Place} {env:List (Nat×AV)} {f f':Nat ->AV}
theorem JE {b:Nat} {x:ar} (h:AV.get (HQ m f') b=some x):∃ y,AV.get (HQ m f) b=some y/\x.isRow=y.isRow/\((x=y/\hlC y)∨(b=114690/\y= .row 29 .leaf m.a6.length f/\x= .row 29 .leaf m.a6.length f')):=by
 simp only[HQ,AV.get]at h ⊢
 have hi:∀ l:List Int,hlC (bw l):=λl i hi j hj=>rfl
 cases e1:Nat.beq 8 b with
 |true=>
  simp only[e1]at h ⊢
  cases h
  exact⟨_,rfl,rfl, .inl ⟨rfl,λj hj=>match j,hj with
   |0,_ |1,_ |2,_ |3,_=>rfl
   |j+4,hj=>absurd hj (by show ¬ j+4<4;omega)⟩⟩
 |false=>
 simp only[e1]at h ⊢
 cases e2:Nat.beq 114688 b with
 |true=>simp only[e2]at h ⊢;cases h;exact⟨_,rfl,rfl, .inl ⟨rfl,hi _⟩⟩
 |false=>
 simp only[e2]at h ⊢
 cases e3:Nat.beq 114689 b with
 |true=>simp only[e3]at h ⊢;cases h;exact⟨_,rfl,rfl, .inl ⟨rfl,hi _⟩⟩
 |false=>
 simp only[e3]at h ⊢
 cases e4:Nat.beq 114690 b with
 |true=>simp only[e4]at h ⊢;cases h;exact⟨_,rfl,rfl, .inr ⟨(xc e4).symm,rfl,rfl⟩⟩
 |false=>
 simp only[e4]at h ⊢
 cases e5:Nat.beq 114691 b with
 |true=>simp only[e5]at h ⊢;cases h;exact⟨_,rfl,rfl, .inl ⟨rfl,hi _⟩⟩
 |false=>
 simp only[e5]at h ⊢
 cases e6:Nat.beq 6 b with
 |true=>
  simp only[e6]at h ⊢
  cases h
  exact⟨_,rfl,rfl, .inl ⟨rfl,λj hj=>match j,hj with
   |0,_ |1,_ |2,_ |3,_=>rfl
   |j+4,hj=>absurd hj (by show ¬ j+4<4;omega)⟩⟩
 |false=>simp only[e6]at h;cases h
theorem zzj {B:Nat ->Prop} {w':World} {b n:Nat} {ty:TypeId} (hb:z24 w F φ B b (.row ty .leaf n f)) (hg:∀ g,(φ b).bV=some g ->w'.heap[g]? =w.heap[g]?) (hf:∀ j,j<n ->∀ v,au w F v (z6 .leaf (f j) 0) ->au w' F v (z6 .leaf (f' j) 0)):z24 w' F φ B b (.row ty .leaf n f'):=by
 obtain⟨h0,h0',h1⟩:=hb
 refine⟨h0,h0',h1.imp id ?_⟩
 rintro⟨g,cs,k1,k2,k3,k4,k5,k6,k7,k8⟩
 refine⟨g,cs,k1,k2,k3,(hg g k1).trans k4,k5,k6,k7,λi hi j hj=>?_⟩
 obtain rfl:j=0:=by have :j<1:=hj;omega
 exact hf i hi _ (k8 i hi 0 hj)
theorem Yb (h:Rel (kb N m 45) W0 F0 ⟨env,HQ m f⟩ a w F φ) (hf:∀ j,j<m.a6.length ->∀ v,au w F v (z6 .leaf (f j) 0) ->au w F v (z6 .leaf (f' j) 0)):Rel (kb N m 45) W0 F0 ⟨env,HQ m f'⟩ a w F φ:=by
 refine⟨h.env,λb x hx=>?_,λb b' x x' g h1 h2=>?_,h.ro,h.base,h.sub,h.new,h.eR,h.iC,h.ck,λb p hb=>?_⟩
 . obtain⟨y,hy,_,e⟩:=JE (f:=f) hx
   have hb:=h.heap b y hy
   rcases e with⟨rfl,_⟩ | ⟨rfl,rfl,rfl⟩
   . exact hb
   . exact zzj hb (λ_ _=>rfl) hf
 . obtain⟨y,hy,_⟩:=JE (f:=f) h1
   obtain⟨y',hy',_⟩:=JE (f:=f) h2
   exact h.inj b b' y y' g hy hy'
 . obtain⟨a1,a2,a3⟩:=h.gV b p hb
   exact⟨a1,a2,λx hx=>by
    obtain⟨y,hy,e,_⟩:=JE (f:=f) hx
    rw[e];exact a3 y hy⟩
theorem acm {s:Nat} {v:Value} (ht:a.tmps.size=45) (hs:s<45):(a.put (some s) v).tmps[s]? =some v:=by simp[Act.put,ht,hs]
theorem aiq {s t:Nat} {v:Value} (e:t≠s):(a.put (some s) v).tmps[t]? =a.tmps[t]? :=by
 simp only[Act.put];rw[ws (jh e)]
theorem agv (h:Rel (kb N m 45) W0 F0 ⟨env,HQ m (fN N m)⟩ a w F φ) (hL:∀ k,¬ W0.L k) (hA:∀ b,W0.A b=none) (hG:∀ g x,AV.get (GN N) g=some x ->au W0.w F0 (.pointer (some ⟨g,0,none⟩)) x) (hF0:∀ k,F0 k ->k<W0.w.heap.size)
 {g:Nat} {cs':Array Value} (hFg:F g) (hN:¬ F0 g) (hrow:∀ j,j<m.a6.length ->j≠c.toNat ->∀ u,au w F u (fN N m j) ->au (w.setRow g cs') F u (fN N m j)) {v':Value} {x:AV} (hv:au (w.setRow g cs') F v' x):
 Rel (kb N m 45) W0 F0 ⟨AV.put (WM env) 38 x,HQ m (fU N m c)⟩ (a.put (some 38) v') (w.setRow g cs') F φ:=by
 have hgB:W0.w.heap.size<=g:=by
  rcases h.new g hFg with h1 |h1 |h1
  . exact(hN h1).elim
  . exact h1
  . exact(hL g h1).elim
 have hblk:∀ b y gb,AV.get (HQ m (fN N m)) b=some y ->(φ b).bV=some gb ->(w.setRow g cs').heap[gb]? =w.heap[gb]? /\¬ F gb:=λb y gb hb hgb=>by
  have :=((h.heap b y hb).lt hgb).2.1
  exact⟨pC λe=>this (e ▸ hFg),this⟩
 refine⟨λs y hs=>?_,λb y hy=>?_,λb b' y y' gg h1 h2=>?_,λk hk=>by rw[setRow_size];exact h.ro k hk, ?_,h.sub,h.new,h.eR, ?_,λs y hs=>?_,λb p hb=>by rw[hA b]at hb;cases hb⟩
 . by_cases e:s=38
   . subst e
     simp only[zv,xq]at hs
     subst hs
     exact⟨v',acm h.iC (by decide), .stat hv⟩
   . simp only[zb _ _ _ _ e]at hs
     obtain⟨y0,hy0,e0⟩:=zsb hs
     obtain⟨v,h1,h2⟩:=h.env s y0 hy0
     refine⟨v,by rw[aiq e];exact h1, ?_⟩
     rcases e0 with⟨rfl,hl⟩ |rfl
     . exact zsa h2 hl
     . exact .eZ false (λh=>by cases h) λ_=> .inr rfl
 . obtain⟨y0,hy0,_,e⟩:=JE (f:=fN N m) hy
   have hb:=h.heap b y0 hy0
   rcases e with⟨rfl,hl⟩ | ⟨rfl,rfl,rfl⟩
   . exact z24.hl hb hl λgb hgb=>hblk b _ gb hy0 hgb
   . refine zzj hb (λgb hgb=>(hblk _ _ gb hy0 hgb).1) λj hj v hv=>?_
     unfold fU
     by_cases e:j=c.toNat
     . rw[x9 e];exact .any _ (hv.one rfl)
     . rw[x8 e];exact hrow j hj e v hv
 . obtain⟨z,hz,_⟩:=JE (f:=fN N m) h1
   obtain⟨z',hz',_⟩:=JE (f:=fN N m) h2
   exact h.inj b b' z z' gg hz hz'
 . exact h.base.trans (L':=λk=>k=g) ⟨rfl,rfl,rfl,by rw[setRow_size];exact xm _,λk _ hk=>pC hk⟩ λi hi hlt=>by subst hi;omega
 . show(a.tmps.setIfInBounds 38 v').size=45
   rw[Array.size_setIfInBounds];exact h.iC
 . exact(hG s y hs).keep (λk hk=>(pC λe:k=g=>hN (e ▸ hk)).trans (h.base.block k (hF0 k hk) (hL k))) h.sub
end
end Go.Proofs.S25
