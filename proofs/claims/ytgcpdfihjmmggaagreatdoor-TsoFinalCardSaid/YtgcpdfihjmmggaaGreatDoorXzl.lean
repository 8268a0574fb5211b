import Derived.Test.YtgcpdfihjmmggaaGreatDoorXzc
import Derived.Test.YtgcpdfihjmmggaaGreatDoorXzb
import Derived.Test.YtgcpdfihjmmggaaGreatDoorXg
namespace Go.Proofs.S25
open Go Go.AV
open Go.IntKind renaming i64 -> j6
open Go.AV.Shape (leaf)
noncomputable section
variable {w:World} {F:Nat ->Prop} {v:Value} (l:List Int) (m:Mem)
def gW:AV:= .bD .leaf l.length λi=> d9 (l.getD i 0)
def afa (l:List (List Int)):ar:= .row 29 .leaf l.length λi=>gW (l.getD i [])
def abn:List ar:=[bw m.vars,bw m.aa,afa m.a6,bw m.sig]
def Ze:FuncId ->List AV ->Option AV
 |225,[.seq _ n f]=>some (gW (zw n f))
 |_,_=>none
noncomputable def vEc (n:Nat):bm:={C:={di n (λ_ _=>false)with mq:=λd=>Nat.beq d 6},CC:=eS Tryz.prog GG,b9:=λ_ _=>Ze,inv:=λ_=>none}
theorem zuo (n:Nat):gn {di n (λ_ _=>false)with mq:=λd=>Nat.beq d 6}:=ll (ac)
noncomputable def vEd (n:Nat) (inv:Nat ->Option Inv):bm:={C:=di n λf d=>Nat.beq f 225&&(Nat.beq d 8 || (Nat.beq d 11 || Nat.beq d 18)),CC:=eS Tryz.prog GG,b9:=λ_ _=>Ze,inv:=inv}
def oEq:FuncId ->List AV ->Option AV
 |189,[_, .int _ i, .int _ n]=>some (d9 (bC m i n))
 |253,[_, .int _ id]=>some (.bool (nt m id))
 |185,_=>some (va m)
 |_,_=>none
def ald:FuncId ->List AV ->Option (List ar)
 |185,_=>some (abn m)
 |_,_=>none
noncomputable def ab4 (m:Mem) (n:Nat):bu:={di n (λ_ _=>false)with fresh:=ald m,iZ:=λd=>Nat.beq d 39}
theorem zup (n:Nat):gn (ab4 m n):=ll (ac)
noncomputable def vEq (m:Mem) (n:Nat):bm:={C:=ab4 m n,CC:=eS Tryz.prog GG,b9:=λ_ _=>oEq m,inv:=λ_=>none}
def mM:AV:= .seq .leaf l.length λi=>if i<l.length then d9 (l.getD i 0)else .any
def vMq (c id:Int):AV:= .mc zm (.agg [a8 (aZ m c id).1.vars,a8 (aZ m c id).1.aa, .seq .leaf (aZ m c id).1.a6.length (λj=>if j=c.toNat then mM ((aZ m c id).1.a6.getD j [])else gW ((aZ m c id).1.a6.getD j [])),a8 (aZ m c id).1.sig])
def zze (k:Nat):Option Inv:=match Nat.beq k 3 with
 |true=>iv m.a6.length λi=>⟨[(1, .ptr 1 []),(2, .ptr 2 []),(3, .ptr 3 []),(21,aE m.a6),(22,d9 m.a6.length),(23,d9 i)],[(1,iY m),(2,iY du),(3, .cell 32 zm (.agg [.own 8 m.vars.length, .own 11 m.aa.length, .own 15 m.a6.length, .own 18 m.sig.length])),(8,bw m.vars),(11,bw m.aa),(15, .row 29 .leaf m.a6.length λj=>if j<i then gW (m.a6.getD j [])else .ax),(18,bw m.sig)]⟩
 |false=>none
theorem zur (hl:l.length<=1000000):KN 225 [a8 l] (gW l):=by
 refine Kn (vEc 11) Tryz.func225 (q8 l/\((0:Int)<=↑l.length/\(↑l.length:Int)<=(↑l.length:Int)/\↑(8:Nat)*↑l.length<=(140737488355328:Int)/\q8 l/\RR (↑l.length:Int))/\(0+(↑l.length:Int).toNat<=(↑l.length:Int).toNat/\(↑(↑l.length:Int).toNat:Int)<=9223372036854775807)/\(↑l.length:Int).toNat<=(↑l.length:Int).toNat/\(AV.bD leaf (↑l.length:Int).toNat λi=>if 0<=i/\i<0+min l.length (↑l.length:Int).toNat then d9 (l.getD (i - 0) 0)else d9 0)=AV.bD leaf l.length λi=>d9 (l.getD i 0)) ?_
 try delta q8
 simp only[SZ]
 grind
section
variable (m:Mem)
def Jr:=RR m.a6.length/\∀ (i:Nat),i<m.a6.length->RR (a8 (m.a6.getD i []))
variable (x1:Nat) (x2:Nat)
def Zw:=if x2<x1 then gW (m.a6.getD x2 [])else AV.ax
def vg:List Int:=zw (m.a6.getD (↑x1:Int).toNat []).length λi=>d9 ((m.a6.getD (↑x1:Int).toNat []).getD i 0)
def vK:=RR ((0:Nat))/\∀ (i:Nat),i<(0:Nat)->RR (d9 (List.getD [] i (0:Int)))
end
theorem age (hm:dk m):KF 185 [vM m] (va m) (abn m):=by
 refine nc (vEd 36 (zze m)) Tryz.func185 ((KF (225:Nat) [a8 m.vars] (AV.own (0:Nat) m.vars.length) [ar.row (3:TypeId) leaf (ql m) λi=>qu m i])/\(KF (225:Nat) [a8 m.aa] (AV.own (0:Nat) m.aa.length) [ar.row (3:TypeId) leaf (qm m) λi=>qv m i])/\lk m/\((0:Int)<=↑m.a6.length/\(↑m.a6.length:Int)<=(↑m.a6.length:Int)/\↑(24:Nat)*↑m.a6.length<=(140737488355328:Int)/\lk m)/\(KF (225:Nat) [a8 m.sig] (AV.own (0:Nat) m.sig.length) [ar.row (3:TypeId) leaf (qk m) λi=>qo m i])/\lk m/\(∃ (i:Nat),i<=List.length (Mem.a6 m)/\(Jr m/\RR (↑(List.length (Mem.a6 m)):Int)/\(0:Int)=(↑i:Int))/\LS (aj m) (aj m)/\((0:Nat)=(0:Nat)/\(0:Nat)=(0:Nat)/\(0:Nat)=(0:Nat)/\(0:Nat)=(0:Nat))/\(RR (List.length (Mem.vars m))/\RR (List.length (Mem.aa m))/\uv m/\RR (List.length (Mem.sig m)))/\(ql m=List.length (Mem.vars m)/\∀ (i:Nat),i<ql m->qu m i=d9 (List.getD (Mem.vars m) i (0:Int)))/\(qm m=List.length (Mem.aa m)/\∀ (i:Nat),i<qm m->qv m i=d9 (List.getD (Mem.aa m) i (0:Int)))/\(uv m/\∀ (i_1:Nat),i_1<Int.toNat (↑(List.length (Mem.a6 m)):Int)->AV.ax=Zw m i i_1)/\qk m=List.length (Mem.sig m)/\∀ (i:Nat),i<qk m->qo m i=d9 (List.getD (Mem.sig m) i (0:Int)))/\∀ i:Nat,i<=m.a6.length->(qj m i=true->af (↑i) m.a6.length/\(KN 225 [a8 (m.a6.getD (↑i:Int).toNat [])] (AV.bD leaf (vg m i).length λi_1=>d9 ((vg m i).getD i_1 (0:Int))))/\af (↑i) m.a6.length/\(↑i:Int).toNat<m.a6.length/\aM j6 (q9 i)/\(∃ (j:Nat),j<=List.length (Mem.a6 m)/\qi m j<qi m i/\(Jr m/\RR (↑(List.length (Mem.a6 m)):Int)/\q9 i=(↑j:Int))/\LS (aj m) (aj m)/\(vK/\vK/\(RR ((0:Nat))/\∀ (i:Nat),i<(0:Nat)->RR (a8 (List.getD [] i [])))/\vK)/\Xz m/\lp m/\lg m/\(RR (List.length (Mem.a6 m))/\∀ (i_1:Nat),i_1<List.length (Mem.a6 m)->(if i_1=Int.toNat (↑i:Int)then aq (gW (vg m i))else Zw m i i_1)=Zw m j i_1)/\mw m))/\(qj m i=false->Xz m/\lp m/\lg m/\(RR m.a6.length/\∀ (i_1:Nat),i_1<m.a6.length->Zw m i i_1=gW (m.a6.getD i_1 []))/\mw m)) ?_
 try delta sQ ql qu tZ qm qv lk qB qk qo Jr uv Zw vg q9 qi vK Xz lp lg mw qj
 simp only[SZ]
 simp only[oR,w8,wg,w6,iL]
 have s3:=hm.a6
 refine⟨rD _ hm.vars,rD _ hm.aa,O,⟨O,O⟩,rD _ hm.sig,O,⟨0,O,rfl,λj hj=>by rw[x8 O]⟩,λi hi=>⟨λhlt=>⟨hlt,zur _ (hm.q i),hlt,hlt,f9,i+1,hlt,O,O,λj hj=>?_⟩,λhge j hj=>by rw[x9 O]⟩⟩
 by_cases e:j=i
 . subst e;rw[x9 rfl,x9 O];rfl
 . rw[x8 e]
   by_cases h:j<i
   . rw[x9 h,x9 O]
   . rw[x8 h,x8 O]
theorem zus (x:Int):(AV.seq .leaf (l.length+1) λi=>if i<l.length then d9 (l.getD i 0)else((List.replicate 1 (d9 0)).set 0 (d9 x)).getD (i - l.length) AV.any)=mM (l++[x]):=by
 unfold mM
 have hl:(l++[x]).length=l.length+1:=ap
 rw[hl]
 congr 1
 funext i
 by_cases f:i<l.length
 . rw[x9 f,x9 O,x7,x7,ya O]
 . rw[x8 f]
   by_cases e:i<l.length+1
   . rw[x9 e]
     grind
   . rw[x8 e,x7,y9 co];rfl
section
variable (m:Mem) (c:Int) (id:Int)
def vw:=(aZ m c id).fst.vars.length=0/\(aZ m c id).fst.aa.length=0/\(aZ m c id).fst.a6.length=0/\(aZ m c id).fst.sig.length=0
def NF:=bC m c ↑m.a6.length !=0
def qti:Nat:=(m.a6.getD c.toNat []).length+1
variable (x3:Nat)
def AW:List Int:=(aZ m c id).fst.a6.getD x3 []
end
theorem aev (c id:Int) (f:dk m):KN 239 [vM m,d9 c,d9 id] (.av [vMq m c id,d9 (aZ m c id).2]):=by
 refine Kn (vEq m 42) Tryz.func239 (↑m.a6.length<=(9223372036854775807:Int)/\KN 189 [AV.mc zm (aj m),d9 c,d9 ↑m.a6.length] (d9 (bC m c ↑m.a6.length))/\(NF m c=true->vw m c id/\bC m c ↑m.a6.length=(aZ m c id).snd)/\(NF m c=false->(pw id=true->vw m c id/\2=(aZ m c id).snd)/\(pw id=false->KN 253 [AV.mc zm (aj m),d9 id] (AV.bool (nt m id))/\(nt m id=true->vw m c id/\30=(aZ m c id).snd)/\(nt m id=false->(KF (185:Nat) [AV.mc zm (aj m)] (AV.mc zm (AV.agg [AV.own (0:Nat) m.vars.length,AV.own (1:Nat) m.aa.length,AV.own (2:Nat) m.a6.length,AV.own (3:Nat) m.sig.length])) [ar.row (3:TypeId) leaf m.vars.length λi=>d9 (m.vars.getD i (0:Int)),ar.row (3:TypeId) leaf m.aa.length λi=>d9 (m.aa.getD i (0:Int)),ar.row (29:TypeId) leaf m.a6.length λi=>gW (m.a6.getD i []),ar.row (3:TypeId) leaf m.sig.length λi=>d9 (m.sig.getD i (0:Int))])/\af c m.a6.length/\c.toNat<m.a6.length/\1*leaf.size<=16777216/\(0<1/\↑(qti m c)*↑(8:Nat)<=(140737488355328:Int)/\qti m c<=9223372036854775807)/\1<=1/\af c m.a6.length/\c.toNat<m.a6.length/\m.vars.length<=m.vars.length/\m.aa.length<=m.aa.length/\m.a6.length<=m.a6.length/\m.sig.length<=m.sig.length/\((m.vars.length=(aZ m c id).fst.vars.length/\∀ i:Nat,i<m.vars.length->d9 (m.vars.getD i 0)=d9 ((aZ m c id).fst.vars.getD i 0))/\(m.aa.length=(aZ m c id).fst.aa.length/\∀ i:Nat,i<m.aa.length->d9 (m.aa.getD i 0)=d9 ((aZ m c id).fst.aa.getD i 0))/\(m.a6.length=(aZ m c id).fst.a6.length/\∀ i:Nat,i<m.a6.length->(if i=c.toNat then aq (AV.seq leaf (qti m c) λi=>if i<(m.a6.getD c.toNat []).length then d9 ((m.a6.getD c.toNat []).getD i 0)else((List.replicate 1 (d9 0)).set 0 (aq (aq (d9 id)))).getD (i - (m.a6.getD c.toNat []).length) AV.any)else gW (m.a6.getD i []))=if i=c.toNat then mM (AW m c id i)else gW (AW m c id i))/\m.sig.length=(aZ m c id).fst.sig.length/\∀ i:Nat,i<m.sig.length->d9 (m.sig.getD i 0)=d9 ((aZ m c id).fst.sig.getD i 0))/\0=(aZ m c id).snd)))) ?_
 try delta vw NF pw qti AW
 simp only[SZ]
 have s3:=f.a6
 have bad:∀ n:Int,aZ m c id=(du,n) ->((aZ m c id).1.vars.length=0/\(aZ m c id).1.aa.length=0/\(aZ m c id).1.a6.length=0/\(aZ m c id).1.sig.length=0)/\n=(aZ m c id).2:=λn h=>by rw[h];exact⟨⟨rfl,rfl,rfl,rfl⟩,rfl⟩
 refine⟨O,TC m c _ f,λh=>bad _ (by unfold aZ;rw[x9 h]),λh1=>⟨λh=>bad _ (by unfold aZ;rw[x8 (by simp[h1]),x9 h]),λh2=>⟨aik m id f,λh=>bad _ (by unfold aZ;rw[x8 (by simp[h1]),x8 h2,x9 h]),λh3=>?_⟩⟩⟩
 have e:aZ m c id=({m with a6:=m.a6.set c.toNat (m.a6.getD c.toNat []++[id])},0):=by unfold aZ;rw[x8 (by simp[h1]),x8 h2,x8 (by simp[h3])]
 have hc:=(kM h1).2
 have k:=f.q c.toNat
 rw[e]
 refine⟨age m f,hc,O,am,⟨am,O,O⟩,hc,O,⟨⟨rfl,λ_ _=>rfl⟩,⟨rfl,λ_ _=>rfl⟩,⟨ap,λj hj=>?_⟩,rfl,λ_ _=>rfl⟩,rfl⟩
 by_cases ej:j=c.toNat
 . rw[x9 ej,x9 ej,zus,ej,x7 (l:=m.a6.set _ _),List.getElem?_set_self O];rfl
 . rw[x8 ej,x8 ej,x7 (l:=m.a6.set _ _),k9 (λe=>ej e.symm),<- x7]
theorem zjt {n:Nat} {f g:Nat ->AV} (h:au w F v (.seq .leaf n f)) (E:∀ i,i<n ->(f i).b8=true/\(g i).b8=true/\∀ u,au w F u (f i) ->au w F u (g i)):au w F v (.seq .leaf n g):=by
 cases h with
 |cH=>exact .cH _ _ _ _
 |seq N o n cap sh f Q M K J H=>
  refine .seq N o _ _ .leaf _ Q M K J λi r j m=>?_
  have e:j=0:=by have :j<1:=m;omega
  subst e
  have⟨y,x,s⟩:=E i r
  have k:=H i r 0 m
  unfold z6 eC at k ⊢
  rw[y]at k
  rw[x]
  exact s _ k
theorem zut {l:List Int} (h:au w F v (gW l)):au w F v (a8 l):=by
 unfold gW at h
 show au w F v (.seq .leaf l.length λi=> d9 (l.getD i 0))
 generalize l.length=n at h ⊢
 cases h with
 |ik=>exact .cH _ _ _ _
 |bD g o n sh f m k j e=>exact .seq g o _ _ .leaf _ m k (xm _) j e
theorem zuu {l:List Int} (h:au w F v (mM l)):au w F v (a8 l):=
 zjt h λi f=>⟨by rw[x9 f];rfl,rfl,λu e=>by rw[x9 f]at e;exact e⟩
theorem ah4:lz:=λm c id y=>by
 refine(aev m c id y).imp λw F v h=>dx.jT (r:=[_,_]) (r':=[_,_]) (by rfl) (λj k u f=>?_) h
 match j,k with
 |1,_=>exact f
 |0,_=>
  cases f with
  |mc E sh x hs s=>
   refine .mc E _ _ hs λj k=>?_
   have h:=s j k
   match j,k with
   |0,_ |1,_ |3,_=>exact h
   |2,_=>
    refine zjt h λi _=>?_
    by_cases e:i=c.toNat
    . rw[x9 e];exact⟨rfl,rfl,λu f=>zuu f⟩
    . rw[x8 e];exact⟨rfl,rfl,λu f=>zut f⟩
theorem zs7 {m:Mem} (y:jZ m) {i j:Nat} (f:i<j) (s:j<m.a6.length) (E:0<(m.a6.getD i []).length) (h2:0<(m.a6.getD j []).length):(m.a6.getD i []).getD 0 0≠(m.a6.getD j []).getD 0 0:=by
 have h:=y.nd
 unfold allI at h
 have x:=(List.pairwise_flatten.1 (List.pairwise_append.1 h).2.1).2
 rw[wh]at x
 have u:=x i j O s f
 have e:∀ k (r:k<m.a6.length),m.a6[k]=m.a6.getD k []:=λk r=>by rw[x7,xe r];rfl
 rw[e i O,e j s]at u
 exact u _ (oI E) _ (oI h2)
theorem zuv {m:Mem} (f:jZ m) {i j:Nat} (e:i≠j) (s:i<m.a6.length) (r:j<m.a6.length) (k:0<(m.a6.getD i []).length) (h2:0<(m.a6.getD j []).length):(m.a6.getD i []).getD 0 0≠(m.a6.getD j []).getD 0 0:=by
 rcases Nat.lt_or_gt_of_ne e with h |h
 . exact zs7 f h r k h2
 . exact(zs7 f h s h2 k).symm
end
end Go.Proofs.S25
namespace Go.Proofs.S25
open Go Go.AV Go.RowKit
variable (N:Nat ->Prop)
def GN:List (Nat×AV):=(aaj, .jS N)::GG
theorem zju {N:Nat ->Prop} {g:Nat} {x:AV} (h:AV.get GG g=some x):AV.get (GN N) g=some x:=by
 unfold GG at h
 simp[AV.get]at h
 split at h
 . rename_i e
   rw[<- xc e];exact h
 . split at h
   . rename_i e
     rw[<- xc e];exact h
   . cases h
def fg (l:List Int):AV:= .cz N .leaf l.length λi=> d9 (l.getD i 0)
def ZE (l:List (List Int)):ar:= .row 29 .leaf l.length λi=>fg N (l.getD i [])
def abd (m:Mem):List ar:=[bw m.vars,bw m.aa,ZE N m.a6,bw m.sig]
noncomputable def aij (n:Nat):bm:={C:={eM n with iZ:=λd=>Nat.beq d 6,mq:=λd=>Nat.beq d 6},CC:=eS Tryz.prog GG,b9:=λ_ _ _ _=>none,inv:=λ_=>none}
theorem zs8 (n:Nat):gn {eM n with iZ:=λd=>Nat.beq d 6,mq:=λd=>Nat.beq d 6}:=ll (ac)
def oEa:FuncId ->List AV ->Option AV
 |161,[.seq _ n f]=>some (fg N (zw n f))
 |_,_=>none
noncomputable def ZN (N:Nat ->Prop) (n:Nat):bu:={eM n with G:=GN N,nU:=c6 Tryz.prog (GN N),Vs:=aab,mU:=λf d=>Nat.beq f 161&&(Nat.beq d 7 || (Nat.beq d 10 || Nat.beq d 13))}
theorem zuw (n:Nat):gn (ZN N n):=ll (ac)
noncomputable def vEa (N:Nat ->Prop) (n:Nat) (inv:Nat ->Option Inv):bm:={C:=ZN N n,CC:=eS Tryz.prog (GN N),b9:=λ_ _=>oEa N,inv:=inv}
def aky (m:Mem) (k:Nat):Option Inv:=match Nat.beq k 3 with
 |true=>iv m.a6.length λi=>⟨[(1, .ptr 1 []),(2, .ptr 2 []),(3, .ptr 3 []),(4,d9 i)],[(1,iY m),(2,iY du),(3, .cell 32 zm (.agg [.own 7 m.vars.length, .own 10 m.aa.length, .own 31 (m.a6.take i).length, .own 13 m.sig.length])),(7,bw m.vars),(10,bw m.aa),(31,ZE N (m.a6.take i)),(13,bw m.sig)]⟩
 |false=>none
noncomputable def zzg (N:Nat ->Prop) (m:Mem):Prop:=z6v (vEa N 34 (aky N m)) Tryz.f101 [vM m] (va m) (abd N m)
end Go.Proofs.S25
namespace Go.Proofs.S25
open Go Go.AV Go.RowKit
open Go.IntKind renaming i64 -> j6
open Go.AV.Shape (leaf)
noncomputable section
variable {N:Nat ->Prop} {f:FuncId} {args:List AV}
theorem aia:KN 161 [a8 []] .ax:=by
 refine Kn (aij 7) Tryz.func161 ((0:Nat)=(0:Nat)/\True) ?_
 exact⟨rfl,trivial⟩
theorem more {r:AV} (h:KN f args r):eS Tryz.prog (GN N) f args r:=
 h.imp_left λh=>⟨h.1,λw F e a b=>h.2 w F e a λg x i=>b g x (zju i)⟩
theorem Mh {r:AV} {cs:List ar} (h:KF f args r cs):c6 Tryz.prog (GN N) f args r cs:=
 ⟨h.1,λw F e a b=>h.2 w F e a λg x i=>b g x (zju i)⟩
theorem agq {ty:TypeId} {sh:Shape} {n:Nat} {g:Nat ->AV} (h:KF f args (.own 0 n) [.row ty sh n g]) (h0:0<n):eS Tryz.prog (GN N) f args (.cz N sh n g):=by
 refine .inl ⟨h.1,λw F vs U y R hr=>(h.2 w F vs U (λg x r=>y g x (zju r)) R hr).mono ?_⟩
 rintro en w' ⟨v,F',Z,rfl,hb,f1,f2,f3,hv,K,_⟩
 have J:∀ k,F k∨N k:=by
  have :=y aaj (.jS N) rfl
  cases this with |jS _ _ _ h=>exact h
 obtain⟨a1,_,⟨h1,h2⟩ | ⟨Y,cs,E,hB,V,X,H,a2,_,s⟩⟩:=K 0 _ rfl
 . omega
 rcases hv.dw with⟨g2,r,rfl,hc⟩ | ⟨r,_,_⟩
 . rw[E]at r
   cases r
   refine⟨_,λk=>F' k∨k=Y,rfl,hb,λk m=> .inl (f1 k m),λk m=>m.elim (f2 k) λe=> .inr (e ▸ hB),λk m=>m.elim (f3 k) λe=>e ▸ (xj.1 X).1, ?_⟩
   have lt:∀ i,i<n ->∀ j,j<sh.size ->i*sh.size+j<(Z 0).cap*sh.size:=λi Q j M=>by
    have u:=xn sh.size (show i+1<=(Z 0).cap by omega)
    rw[y7]at u;omega
   refine .cz N Y 0 n _ sh g (λi j=>cs.getD (i*sh.size+j) undef) (.inr rfl) ((J Y).resolve_left λhF=>V (f1 _ hF)) ⟨rfl,h0,cs,_,X,by rw[H];exact xm _⟩ hc (λi Q j M=>?_) λi Q j M=>?_
   . rw[xw];exact nq X (by rw[H];exact lt i Q j M)
   . exact(s i Q j M).keep (λ_ _=>rfl) λk m=> .inl m
 . rw[E]at r;cases r
theorem aju (N:Nat ->Prop) (l:List Int) (hl:l.length<=1000000):eS Tryz.prog (GN N) 161 [a8 l] (fg N l):=by
 cases l with
 |nil=>exact(more aia).imp λw F v h=>by cases h;exact .fJ _ _ _
 |cons x l=>exact agq (nF (x::l) hl) (ap)
section
variable (N:Nat ->Prop) (m:Mem) (x2:Nat) (x3:Nat)
def qtj:=fg N ((List.take x2 m.a6).getD x3 [])
end
theorem alo (N:Nat->Prop) (m:Mem):zzg N m=((c6 Tryz.prog (GN N) (161:Nat) [a8 m.vars] (AV.own (0:Nat) m.vars.length) [ar.row (3:TypeId) leaf (ql m) λi=>qu m i])/\(c6 Tryz.prog (GN N) (161:Nat) [a8 m.aa] (AV.own (0:Nat) m.aa.length) [ar.row (3:TypeId) leaf (qm m) λi=>qv m i])/\(c6 Tryz.prog (GN N) (161:Nat) [a8 m.sig] (AV.own (0:Nat) m.sig.length) [ar.row (3:TypeId) leaf (qk m) λi=>qo m i])/\(∃ (i:Nat),i<=List.length (Mem.a6 m)/\(0:Int)=(↑i:Int)/\LS (aj m) (aj m)/\((0:Nat)=(0:Nat)/\(0:Nat)=(0:Nat)/\(0:Nat)=(0:Nat)/\(0:Nat)=(0:Nat))/\(RR (List.length (Mem.vars m))/\RR (List.length (Mem.aa m))/\oi m i/\RR (List.length (Mem.sig m)))/\(ql m=List.length (Mem.vars m)/\∀ (i:Nat),i<ql m->qu m i=d9 (List.getD (Mem.vars m) i (0:Int)))/\(qm m=List.length (Mem.aa m)/\∀ (i:Nat),i<qm m->qv m i=d9 (List.getD (Mem.aa m) i (0:Int)))/\oi m i/\qk m=List.length (Mem.sig m)/\∀ (i:Nat),i<qk m->qo m i=d9 (List.getD (Mem.sig m) i (0:Int)))/\∀ i:Nat,i<=m.a6.length->↑m.a6.length<=(9223372036854775807:Int)/\(qj m i=true->af (↑i) m.a6.length/\(eS Tryz.prog (GN N) (161:Nat) [a8 (m.a6.getD (↑i:Int).toNat [])] (AV.cz N leaf (vg m i).length λi_1=>d9 ((vg m i).getD i_1 (0:Int))))/\1*leaf.size<=16777216/\(RR (List.take i m.a6).length/\↑(lU m i)*↑(24:Nat)<=(140737488355328:Int)/\lU m i<=9223372036854775807)/\1<=1/\aM j6 (q9 i)/\(∃ (j:Nat),j<=List.length (Mem.a6 m)/\qi m j<qi m i/\q9 i=(↑j:Int)/\LS (aj m) (aj m)/\(vK/\vK/\(RR ((0:Nat))/\∀ (i:Nat),i<(0:Nat)->RR (a8 (List.getD [] i [])))/\vK)/\(RR (List.length (Mem.vars m))/\RR (List.length (Mem.aa m))/\oH m i j/\RR (List.length (Mem.sig m)))/\lp m/\lg m/\(oH m i j/\∀ (i_1:Nat),i_1<lU m i->(if i_1<List.length (List.take i (Mem.a6 m))then qtj N m i i_1 else List.getD (List.set (List.replicate (1:Nat) AV.ax) (0:Nat) (aq (fg N (vg m i)))) (i_1 - List.length (List.take i (Mem.a6 m))) AV.any)=qtj N m j i_1)/\mw m))/\(qj m i=false->(RR m.vars.length/\RR m.aa.length/\uP m i/\RR m.sig.length)/\lp m/\lg m/\(uP m i/\∀ (i_1:Nat),i_1<(List.take i m.a6).length->qtj N m i i_1=fg N (m.a6.getD i_1 []))/\mw m)):=ac
theorem aim (N:Nat ->Prop) (m:Mem) (f:dk m):c6 Tryz.prog (GN N) 101 [vM m] (va m) (abd N m):=by
 refine c6.of (V:=vEa N 34 (aky N m)) (fn:=Tryz.f101) Tryz.func101 ac (zuw N 34) rfl ?_
 show zzg N m
 rw[alo];try delta sQ ql qu tZ qm qv qB qk qo oi vg lU q9 qi vK oH lp lg qtj mw qj uP
 simp only[SZ]
 simp only[oR,w8,wg,w6,iL]
 have s3:=f.a6
 refine⟨Mh (nF _ f.vars),Mh (nF _ f.aa),Mh (nF _ f.sig),⟨0,O,rfl,ap⟩,λi k=>⟨O,λhlt=>?_,λhge=>?_⟩⟩
 . have hn:(m.a6.take i).length=i:=by rw[xr];omega
   have e:m.a6.take (i+1)=m.a6.take i++[m.a6.getD i []]:=by
    rw[List.take_add_one,x7,xe hlt];rfl
   refine⟨hlt,aju N _ (f.q i),am,⟨O,O⟩,f9,i+1,O,O,O, ?_⟩
   rw[e];exact⟨ap,ap,λj h=>nS (fg N) _ [] _ _ j h⟩
 . rw[xu O];exact⟨rfl,rfl,λ_ _=>rfl⟩
end
end Go.Proofs.S25
namespace Go.AV
open Go.RowKit
theorem zux {P:Program} {id:Nat} {ops:Array Oper} {Q:Exit ->Act ->World ->Prop} {a:Act} {w:World} (I:(Nat ->Bool) ->Act ->World ->Prop)
 (j:(sj .any ops.toList&&(sj .text ops.toList&&sj .gc ops.toList))=true) (h0:I (λ_=>false) a {w with drawn:=w.drawn+1})
 (H:∀ (D:Nat ->Bool) (i:Nat) (o:Oper) (a:Act) (w:World),ops[i]? =some o ->D i=false ->(∀ e∈o.after.toList,Region.binds .any e=true ->D e.on=true) ->I D a w ->
  o.guard=none/\o.wp P a w (I λk=>D k || Nat.beq k i) Q)
 (E:∀ (D:Nat ->Bool) (a:Act) (w:World),(∀ k,k<ops.size ->D k=true) ->I D a w ->Q .normal a w):(Code.region id ops true).wp P Q a w:=by
 have N:∀ s (m:Nat) (U:List Nat) (listed:Array Bool) (a:Act) (w:World),U.length=m ->U.Nodup ->listed.size=ops.size ->(∀ k,k<ops.size ->(listed.getD k true=false↔k∈U)) ->
  I (λk=>listed.getD k false) a w ->wpAny P s ops Q m listed a w:=by
  intro s
  have anyB:∀ e:Edge,Region.binds .any e=true ->Region.binds s e=true:=by
   intro e he
   have⟨on,g⟩:=e
   cases g<;>simp_all [Region.binds]
  have u:∀ (listed:Array Bool) (i:Nat),listed.size=ops.size ->(i∈Region.ready s ops listed↔∃ o,ops[i]? =some o/\listed.getD i true=false/\∀ e∈o.after.toList,Region.binds s e=true ->listed.getD e.on false=true):=by
   intro listed i f
   simp only[Region.ready,yh,yl,xa,xi]
   constructor
   . rintro⟨h1,y,J⟩
     have ho:ops[i]? =some ops[i]:=by simp[h1]
     rw[ho]at J
     simp only[gj,yj,j3]at J
     exact⟨_,ho,y,λe he F=>by
      have :=J e (by simpa using he)
      simpa [F]using this⟩
   . rintro⟨o,ho,y,J⟩
     refine⟨(xj.1 ho).1,y, ?_⟩
     rw[ho]
     simp only[gj,yj,j3]
     intro e he
     by_cases F:Region.binds s e=true
     . simp[J e (by simpa using he) F]
     . simp[F]
  have x:∀ (listed:Array Bool) (k:Nat),k<listed.size ->listed.getD k true=listed.getD k false:=by
   intro l k hk
   simp[xb,hk]
  have stop:∀ (listed:Array Bool),listed.size=ops.size ->Region.ready s ops listed=[] ->∀ k,k<ops.size ->listed.getD k false=true:=by
   intro listed f hr
   have Y:sj s ops.toList=true:=by
    simp only[xa]at j
    cases s<;>first |exact j.1 |exact j.2.1 |exact j.2.2
   have⟨rk,V⟩:=zao Y
   suffices h:∀ (r k:Nat),rk k=r ->k<ops.size ->listed.getD k false=true from λk=>h _ k rfl
   intro r
   induction r using Nat.strongRecOn with
   |_ r ih=>
    intro k hkr hk
    cases hl:listed.getD k false with
    |true=>rfl
    |false=>
     have ho:ops[k]? =some ops[k]:=by simp[hk]
     have :k∈Region.ready s ops listed:=(u listed k f).2 ⟨_,ho,by rw[x _ _ (by omega)];exact hl,λe he F=>by
      have⟨h1,y⟩:=V k _ (by simp) e he F
      exact ih (rk e.on) (by omega) e.on rfl (by simpa using y)⟩
     rw[hr]at this;cases this
  intro m
  induction m with
  |zero=>
   intro U listed a w hU _ f hl M
   obtain rfl:U=[]:=xz hU
   have hr:Region.ready s ops listed=[]:=by
    cases R:Region.ready s ops listed with
    |nil=>rfl
    |cons i l=>
     have⟨o,ho,y,_⟩:=(u listed i f).1 (by rw[R];simp)
     have :=(hl i (xj.1 ho).1).1 y
     cases this
   exact⟨hr,E _ a w (stop listed f hr) M⟩
  |succ m ih=>
   intro U listed a w hU hnd f hl M
   refine⟨λhr=>E _ a w (stop listed f hr) M,λi hi=>?_⟩
   have⟨o,ho,y,J⟩:=(u listed i f).1 hi
   have Z:i<ops.size:=(xj.1 ho).1
   have⟨hg,hw⟩:=H _ i o a w ho (by rw[<- x _ _ (by omega)];exact y) (λe he F=>J e he (anyB e F)) M
   have hD:(λk=>listed.getD k false || Nat.beq k i)=λk=>(listed.setIfInBounds i true).getD k false:=by
    funext k
    simp only[xb,Array.getElem?_setIfInBounds]
    by_cases hk:i=k
    . subst hk;simp[show i<listed.size by omega]
    . have :Nat.beq k i=false:=by
       cases e:Nat.beq k i with
       |false=>rfl
       |true=>exact absurd (xc e).symm hk
      simp[hk,this]
   unfold wpOp
   rw[ho]
   simp only[]
   rw[x9 (by simp[Region.wanted,hg])]
   refine .inl (Oper.wp_mono (λa' w' K=>?_) hw)
   rw[hD]at K
   have iU:i∈U:=(hl i Z).1 y
   refine ih (U.erase i) _ a' w' (by rw[List.length_erase_of_mem iU,hU];rfl) (hnd.erase i) (by simpa using f) (λk hk=>?_) K
   rw[hnd.mem_erase_iff,<- hl k hk]
   simp only[xb,Array.getElem?_setIfInBounds]
   by_cases hki:i=k
   . subst hki;simp[show i<listed.size by omega]
   . simp[hki,Ne.symm hki]
 have start:∀ s,wpAny P s ops Q ops.size (Array.replicate ops.size false) a {w with drawn:=w.drawn+1}:=by
  intro s
  have X:(λk=>(Array.replicate ops.size false).getD k false)=λ_=>false:=by
   funext k
   simp only[xb,Array.getElem?_replicate]
   split<;>simp
  refine N s ops.size (List.range ops.size) _ a _ ap List.nodup_range ap (λk hk=>?_) (by rw[X];exact h0)
  simp[xb,hk]
 refine wp_region_draw λt=>?_
 unfold Region.schedule
 split
 . exact wpAny_sound _ _ _ _ _ (start .any)
 . exact wpAny_sound _ _ _ _ _ (start _)
end Go.AV
namespace Go.Proofs.S25
open Go Go.AV Go.RowKit
variable {w:World} {w':World} {F:Nat ->Prop} {F':Nat ->Prop} {v:Value} (N:Nat ->Prop) (m:Mem) (c:Int) (id:Int)
def zjv:Nat ->Code ->Code
 |0, .seq a _=>a
 |k+1, .seq a b=> .seq a (zjv k b)
 |_,_=> .skip
def vY:Nat ->Code ->Code
 |0, .seq _ b=>b
 |k+1, .seq _ b=>vY k b
 |_,c=>c
theorem zs9 {V:bm} {W0:AV.Entry} {F0:Nat ->Prop} {i:Exit ->Act ->World ->Prop} (u:gn V.C) (m:dW V.C V.CC) (J:∀ k,V.cut k=none):∀ (k:Nat) (c:Code) (st:St) (Q:Exit ->St ->Prop) (a:Act) (w:World) (F:Nat ->Prop) (φ:Nat ->AV.Place),vc V (zjv k c) st Q ->Rel V.C W0 F0 st a w F φ ->
 (∀ e f a w F φ,Rel V.C W0 F0 f a w F φ ->Q e f ->Exit.then ((vY k c).wp V.C.P i) i e a w) ->c.wp V.C.P i a w:=by
 intro k
 induction k with
 |zero=>
  intro c st Q a w F φ h j hK
  cases c with
  |seq x y=>exact wp_seq (wp_mono (YL u m x st Q a w F φ h j) λe a w ⟨f,F',r,h1,s⟩=>hK e f a w F' r h1 s)
  |_=>exact hK .normal st a w F φ j h
 |succ k H=>
  intro c st Q a w F φ h j hK
  cases c with
  |seq x y=>
   refine wp_seq (wp_mono (YL u m x st _ a w F φ (zv2 J h) j) ?_)
   rintro e E w' ⟨f,F',r,h1,s⟩
   cases e with
   |normal=>exact H y f Q E w' F' r s h1 hK
   |_=>exact hK _ f E w' F' r h1 s
  |_=>exact hK .normal st a w F φ j h
theorem zbj {k:Int} (h:au w F v (.int .i64 k)):v= .int .i64 k/\aM .i64 k:=by
 cases h with |int _ _ h=>exact⟨rfl,h⟩
def qU:AV ->Bool
 | .any | .int _ _ | .bool _ | .ax | .dj | .own _ _ | .ptr _ _ | .bq _ _ _=>true
 |_=>false
theorem zg3 {x:AV} (h:au w F v x) (e:qU x=true):au w' F' v x:=by
 cases h with
 |any _ h=>exact .any _ h
 |int _ _ h=>exact .int _ _ h
 |bool=>exact .bool _
 |ax=>exact .ax
 |dj=>exact .dj
 |_=>exact absurd e Bool.false_ne_true
theorem zsa {φ:Nat ->AV.Place} {v:Value} {x:AV} (h:aG w F φ v x) (j:qU x=true):aG w' F' φ v x:=by
 cases h with
 |stat h=>exact .stat (zg3 h j)
 |own b g n e k=>exact .own b g n e k
 |gX b e=>exact .gX b e
 |ptr b g p e f=>exact .ptr b g p e f
 |bq b g i p e f=>exact .bq b g i p e f
 |_=>exact absurd j Bool.false_ne_true
def WM:List (Nat×AV) ->List (Nat×AV)
 | []=>[]
 | (k,x)::l=>(k,match qU x with |true=>x |false=> .when false .any)::WM l
theorem zsb:∀ {l:List (Nat×AV)} {s:Nat} {x:AV},AV.get (WM l) s=some x ->∃ y,AV.get l s=some y/\((x=y/\qU y=true)∨x= .when false .any)
 | (k,y)::l,s,x,h=>by
  simp[WM,AV.get]at h ⊢
  split at h
  . rename_i e
    cases h
    refine⟨y,rfl, ?_⟩
    cases f:qU y<;>simp
  . exact zsb h
theorem zsc {s:Nat} {x:AV} (e:qU x=true):∀ {l:List (Nat×AV)},AV.get l s=some x ->AV.get (WM l) s=some x
 | (k,y)::l,h=>by
  simp[WM,AV.get]at h ⊢
  split at h
  . cases h;rw[e]
  . exact zsc e h
def hlC:ar ->Prop
 | .cell _ sh x=>∀ j,j<sh.size ->qU (z6 sh x j)=true
 | .row _ sh n f=>∀ i,i<n ->∀ j,j<sh.size ->qU (z6 sh (f i) j)=true
theorem z24.hl {φ:Nat ->AV.Place} {B:Nat ->Prop} {b:Nat} {c:ar} (h:z24 w F φ B b c) (M:hlC c) (m:∀ g,(φ b).bV=some g ->w'.heap[g]? =w.heap[g]? /\¬ F' g):z24 w' F' φ B b c:=by
 cases c with
 |cell U sh x=>
  have⟨H,g,J,e,y,R,u,s,r⟩:=h
  exact⟨H,g,J,e,y,(m g e).2,(m g e).1.trans u,s,λj k=>zsa (r j k) (M j k)⟩
 |row ty sh n f=>
  have⟨H,E,h⟩:=h
  refine⟨H,E,h.imp id ?_⟩
  rintro⟨g,J,e,y,R,u,s,r,Q,N⟩
  exact⟨g,J,e,y,(m g e).2,(m g e).1.trans u,s,r,Q,λi K j k=>zg3 (N i K j k) (M i K j k)⟩
def ZM (l:List (Nat×AV)):Operand ->Bool
 | .tmp t=>(AV.get l t).isSome
 |_=>true
theorem zuy {l:List (Nat×AV)} {s:Nat} {e:List Operand} (h:tA s e=true) (f:e.all (ZM l)=true):∃ y,AV.get l s=some y:=by
 induction e with
 |nil=>cases h
 |cons x r i=>
  simp only[List.all_cons,xa]at f
  cases x with
  |tmp t=>
   simp only[tA,xk]at h
   rcases h with h |h
   . have :=xc h
     subst this
     exact Option.isSome_iff_exists.1 f.1
   . exact i h f.2
  |_=>exact i h f.2
structure OpF (C:bu) (CC:FuncId ->List AV ->AV ->Prop) (ops:Array Oper) (H:List (Nat×ar)) (i:Nat) (o:Oper) (l:List (Nat×AV)) (x:AV) (ps:List Prop) (need:List Operand):Prop where
 hs:lh C CC (λ_ _=>none) ops.toList ⟨l,H⟩ o=some (⟨AV.put l (28+i) x,H⟩,ps)
 g:gT C ⟨l,H⟩ o=false
 n:ml C o=false
 wr:cV C ⟨l,H⟩ o=[]
 d:o.dst=some (28+i)
 rd:∀ s,wM ops.toList o s=(tA s need || false)
 jS:need.all (ZM l)=true
 gd:o.guard=none
section
variable {C:bu} {CC:FuncId ->List AV ->AV ->Prop} {W0:AV.Entry} {F0:Nat ->Prop} {a:Act} {w:World} {F:Nat ->Prop} {φ:Nat ->AV.Place} {ops:Array Oper} {H:List (Nat×ar)} {i:Nat} {o:Oper} {l env:List (Nat×AV)} {x:AV} {ps:List Prop} {need:List Operand} {K:Act ->World ->Prop} {Q:Exit ->Act ->World ->Prop}
theorem OpF.go (h:OpF C CC ops H i o l x ps need) (hps:∀ p∈ps,p) (hT:gn C) (hCC:dW C CC) (hR:Rel C W0 F0 ⟨env,H⟩ a w F φ) (hl:∀ s y,AV.get l s=some y ->AV.get env s=some y)
 (hK:∀ env' a' w' F' φ',Rel C W0 F0 ⟨env',H⟩ a' w' F' φ' ->AV.get env' (28+i)=some x ->(∀ s,s≠28+i ->AV.get env' s=AV.get env s) ->K a' w'):o.wp C.P a w K Q:=by
 have hal:de C ops.toList o ⟨l,H⟩ ⟨env,H⟩:=⟨λs hs=>by
  rw[h.rd,Bool.or_false]at hs
  have⟨y,hy⟩:=zuy hs h.jS
  exact hy.trans (hl s y hy).symm,λ_ _=>rfl⟩
 have⟨s2,h1,h2,_⟩:=z95 hal h.g h.hs λhn=>by rw[h.n]at hn;cases hn
 have⟨f1,f2⟩:=Ay (z4v hal ▸ h.g) h1
 have hw:cV C ⟨env,H⟩ o=[]:=z6f hal ▸ h.wr
 have :=C0 (Q:=Q) (ops:=ops) (K:=K) hR hT hCC h1 hps λa' w' F' φ' hR'=>hK s2.env a' w' F' φ' (hR'.alike (S':=⟨s2.env,H⟩) (λ_=>rfl) λb=>(f2 b (by rw[hw];exact yv)).symm)
  (by rw[h2 _ h.d];exact zv _ _ _) λs hs=>f1 s (by rw[h.d];exact λe=>hs (gk e).symm)
 rw[x9 (by simp[Region.wanted,h.gd])]at this
 exact this
end
abbrev mr:Mem:={m with a6:=m.a6.set c.toNat (m.a6.getD c.toNat []++[id])}
noncomputable def uY:Code:=match Tryz.f97.body with
 |some c=>c
 |none=> .skip
noncomputable def gJ:Array Oper:=match vY 4 uY with
 | .seq (.region _ e _) _=>e
 |_=>#[]
noncomputable def o8 (i:Nat):Oper:=(gJ[i]?).getD default
def oEr (k:Nat):FuncId ->List AV ->Option AV
 |148,_=>some (.bool (match Nat.beq k 1 with |true=>ca m |false=>ca (mr m c id)))
 |101,_=>some (va m)
 |_,_=>none
def aj4:FuncId ->List AV ->Option (List ar)
 |101,_=>some (abd N m)
 |_,_=>none
noncomputable def z5c (N:Nat ->Prop) (m:Mem) (n:Nat):bu:={eM n with G:=GN N,fresh:=aj4 N m,nU:=c6 Tryz.prog (GN N),iZ:=λd=>Nat.beq d 37 || Nat.beq d 38}
theorem Cq (n:Nat):gn (z5c N m n):=ll (ac)
noncomputable def Yt (N:Nat ->Prop) (m:Mem) (c id:Int) (n:Nat) (fz:Nat ->List Nat):bm:={C:=z5c N m n,CC:=eS Tryz.prog (GN N),b9:=λk _=>oEr m c id k,inv:=λ_=>none,fz:=fz}
def aa8:AV:= .agg [.own 114688 m.vars.length, .own 114689 m.aa.length, .own 114690 m.a6.length, .own 114691 m.sig.length]
def HQ (f:Nat ->AV):List (Nat×ar):=[(8, .cell 32 zm (aa8 m)),(114688,bw m.vars),(114689,bw m.aa),(114690, .row 29 .leaf m.a6.length f),(114691,bw m.sig),(6, .cell 32 zm (.agg [.ax, .ax, .ax, .ax]))]
def fN (j:Nat):AV:=fg N (m.a6.getD j [])
def fU (j:Nat):AV:=if j=c.toNat then .any else fN N m j
def S7:St:=⟨[(8, .ptr 8 []),(6, .ptr 6 []),(1,d9 c),(2,d9 id)],HQ m (fN N m)⟩
def S8:St:=⟨[(8, .ptr 8 []),(6, .ptr 6 [])],HQ m λj=>a8 (m.a6.getD j [])⟩
def SR:St:=⟨[(6, .ptr 6 []),(7,d9 (aZ m c id).2)],[(6,iY (aZ m c id).1)]⟩
def fzR (k:Nat):List Nat:=match Nat.beq k 11 with
 |true=>[114688,114689,114690,114691]
 |false=>[]
noncomputable def zzh (N:Nat ->Prop) (m:Mem) (c id:Int):Prop:=fL (Yt N m c id 45 λ_=>[]) (zjv 4 uY) ⟨z87 0 [vM m,d9 c,d9 id],[]⟩ (some (ca m=true/\bC m c m.a6.length=0/\¬ id<0,S7 N m c id)) none (some (True,SR m c id))
noncomputable def zsd (N:Nat ->Prop) (m:Mem) (c id:Int):Prop:=fL (Yt N m c id 45 fzR) (vY 5 uY) (S8 (mr m c id)) none none (some (True,SR m c id))
end Go.Proofs.S25
namespace Go.Proofs.S25
open Go Go.AV Go.RowKit
open Go.IntKind renaming i64 -> j6
open Go.AV.Shape (leaf)
noncomputable section
theorem ah0 (N:Nat->Prop) (m:Mem) (c id:Int):zzh N m c id=(eS Tryz.prog (GN N) (148:Nat) [AV.mc zm (aj m)] (AV.bool (ca m))/\((!ca m)=true->True/\1=(aZ m c id).snd/\vw m c id)/\((!ca m)=false->lq c/\lq c/\(yD c->↑m.a6.length<=(9223372036854775807:Int))/\lq c/\lq c/\lq c/\(uo m c=true->True/\11=(aZ m c id).snd/\vw m c id)/\(uo m c=false->(pw id=true->True/\2=(aZ m c id).snd/\vw m c id)/\(pw id=false->(c6 Tryz.prog (GN N) (101:Nat) [AV.mc zm (aj m)] (AV.mc zm (AV.agg [AV.own (0:Nat) m.vars.length,AV.own (1:Nat) m.aa.length,AV.own (2:Nat) m.a6.length,AV.own (3:Nat) m.sig.length])) [ar.row (3:TypeId) leaf m.vars.length λi=>d9 (m.vars.getD i (0:Int)),ar.row (3:TypeId) leaf m.aa.length λi=>d9 (m.aa.getD i (0:Int)),ar.row (29:TypeId) leaf m.a6.length λi=>fg N (m.a6.getD i []),ar.row (3:TypeId) leaf m.sig.length λi=>d9 (m.sig.getD i (0:Int))])/\(ca m=true/\bC m c ↑m.a6.length=0/\¬id<0)/\(RR c/\RR id)/\(RR m.vars.length/\RR m.aa.length/\RR m.a6.length/\RR m.sig.length)/\(RR m.vars.length/\∀ i:Nat,i<m.vars.length->RR (d9 (m.vars.getD i 0)))/\(RR m.aa.length/\∀ i:Nat,i<m.aa.length->RR (d9 (m.aa.getD i 0)))/\(RR m.a6.length/\∀ i:Nat,i<m.a6.length->fg N (m.a6.getD i [])=fN N m i)/\RR m.sig.length/\∀ i:Nat,i<m.sig.length->RR (d9 (m.sig.getD i 0)))))):=ac
section
variable (m:Mem) (c:Int) (id:Int)
def qtk:List (List Int):=m.a6.set c.toNat (m.a6.getD c.toNat []++[id])
def Z3:Nat:=(qtk m c id).length
def qtl:=Z3 m c id<=Z3 m c id
end
theorem acf (N:Nat->Prop) (m:Mem) (c id:Int):zsd N m c id=(eS Tryz.prog (GN N) (148:Nat) [AV.mc zm (AV.agg [a8 m.vars,a8 m.aa,aE (qtk m c id),a8 m.sig])] (AV.bool (ca (mr m c id)))/\m.vars.length<=m.vars.length/\m.aa.length<=m.aa.length/\qtl m c id/\m.sig.length<=m.sig.length/\((!ca (mr m c id))=true->True/\30=(aZ m c id).snd/\(aZ m c id).fst.vars.length=0/\(aZ m c id).fst.aa.length=0/\(aZ m c id).fst.a6.length=0/\(aZ m c id).fst.sig.length=0)/\((!ca (mr m c id))=false->m.vars.length<=m.vars.length/\m.aa.length<=m.aa.length/\qtl m c id/\m.sig.length<=m.sig.length/\m.vars.length<=m.vars.length/\m.aa.length<=m.aa.length/\qtl m c id/\m.sig.length<=m.sig.length/\True/\0=(aZ m c id).snd/\(m.vars.length=(aZ m c id).fst.vars.length/\∀ i:Nat,i<m.vars.length->d9 (m.vars.getD i 0)=d9 ((aZ m c id).fst.vars.getD i 0))/\(m.aa.length=(aZ m c id).fst.aa.length/\∀ i:Nat,i<m.aa.length->d9 (m.aa.getD i 0)=d9 ((aZ m c id).fst.aa.getD i 0))/\(Z3 m c id=(aZ m c id).fst.a6.length/\∀ i:Nat,i<Z3 m c id->a8 ((qtk m c id).getD i [])=a8 ((aZ m c id).fst.a6.getD i []))/\m.sig.length=(aZ m c id).fst.sig.length/\∀ i:Nat,i<m.sig.length->d9 (m.sig.getD i 0)=d9 ((aZ m c id).fst.sig.getD i 0))):=ac
theorem ajt:vY 4 uY= .seq (.region 8 gJ true) (vY 5 uY):=ac
theorem zuz (l:List (List Int)) (x:Int):∀ c,c<l.length ->(l.set c (l.getD c []++[x])).flatten.Perm (x::l.flatten):=by
 induction l with
 |nil=>intro c e;exact absurd e (jo _)
 |cons q l f=>
  intro c e
  cases c with
  |zero=>
   simp only[List.set_cons_zero,List.getD_cons_zero,List.flatten_cons,wq,List.singleton_append]
   exact List.perm_middle
  |succ c=>
   simp only[List.set_cons_succ,List.getD_cons_succ,List.flatten_cons]
   exact((f c (by simpa using e)).append_left q).trans List.perm_middle
theorem zzi (m:Mem) (c id:Int) (e:c.toNat<m.a6.length):(allI (mr m c id)).Perm (id::allI m):=
 ((zuz m.a6 id c.toNat e).append_left m.sig).trans List.perm_middle
theorem zse (m:Mem) (id:Int):nt m id=true↔id∈allI m:=by grind[nt,allI,aQ,List.mem_flatten]
theorem aja {m:Mem} {c id:Int} (i:ca m=true) (j:c.toNat<m.a6.length) (e:0<=id):ca (mr m c id)=!nt m id:=by
 have M:=z47.1 i
 have P:=zzi m c id j
 rw[wk,xi,<- jy,zse,z47]
 constructor
 . intro E
   have :=P.nodup_iff.1 E.nd
   grind
 . intro h
   refine⟨M.vars,M.aa,by show(m.a6.set _ _).length<=4;rw[yy];exact M.a6,M.mO,M.uZ,M.own,λx f=>?_,P.nodup_iff.2 (List.nodup_cons.2 ⟨h,M.nd⟩)⟩
   rcases xv.1 (P.mem_iff.1 f)with rfl |h
   . exact e
   . exact M.pos x h
theorem aic (N:Nat ->Prop) (m:Mem) (c id:Int) (f:dk m):zzh N m c id:=by
 rw[ah0];try delta vw qj1 yD lq uo pw
 simp only[SZ]
 have s3:=f.a6
 have bad:∀ n:Int,aZ m c id=(du,n) ->n=(aZ m c id).2/\(aZ m c id).1.vars.length=0/\(aZ m c id).1.aa.length=0/\(aZ m c id).1.a6.length=0/\(aZ m c id).1.sig.length=0:=λn h=>by rw[h];exact⟨rfl,rfl,rfl,rfl,rfl⟩
 refine⟨more (lu m f),λh=>bad _ (by unfold aZ;rw[zhp h,x9 am]),λh=>⟨λ_=>O,λh1=>bad _ (by unfold aZ;rw[po h,x9 h1,x9 am]),λh1=>?_⟩⟩
 have h0:bC m c m.a6.length=0:=by rw[po h,x8 O]
 exact⟨λh2=>bad _ (by unfold aZ;rw[x8 (λe=>e h0),x9 h2]),λh2=>⟨aim N m f,⟨h,h0,h2⟩,λ_ _=>rfl⟩⟩
theorem ajx (N:Nat ->Prop) (m:Mem) (c id:Int) (f:dk m) (r:ca m=true) (j:bC m c m.a6.length=0) (k:¬ id<0):zsd N m c id:=by
 rw[acf];try delta qtk Z3 qtl
 simp only[SZ]
 have s:=(kM j).2
 have i:=aja r (c:=c) (id:=id) O O
 have P:=(zzi m c id O).length_eq
 have s5:=f.all
 refine⟨more (aaz (mr m c id) f.vars f.aa (by show(m.a6.set _ _).length<=_;rw[yy];exact f.a6) f.sig (by rw[P];simp only[yp];omega)),λh=>?_,λh=>?_⟩
 . rw[i]at h
   have e:aZ m c id=(du,30):=by unfold aZ;rw[x8 (λe=>e j),x8 k,x9 (by simpa using h)]
   rw[e];exact⟨rfl,rfl,rfl,rfl,rfl⟩
 . rw[i]at h
   have e:aZ m c id=(mr m c id,0):=by unfold aZ;rw[x8 (λe=>e j),x8 k,x8 (by simpa using h)]
   rw[e];exact⟨rfl,⟨rfl,λ_ _=>rfl⟩,⟨rfl,λ_ _=>rfl⟩,⟨rfl,λ_ _=>rfl⟩,rfl,λ_ _=>rfl⟩
end
end Go.Proofs.S25
namespace Go.Proofs.S25
open Go Go.AV Go.RowKit
section
variable {N:Nat ->Prop} {m:Mem} {c id:Int} {W0:AV.Entry} {F0:Nat ->Prop} {a:Act} {w:World} {F:Nat ->Prop} {φ:Nat ->AV.Place} {env:List (Nat×AV)} {f f':Nat ->AV}
theorem JE {b:Nat} {x:ar} (h:AV.get (HQ m f') b=some x):∃ y,AV.get (HQ m f) b=some y/\x.isRow=y.isRow/\((x=y/\hlC y)∨(b=114690/\y= .row 29 .leaf m.a6.length f/\x= .row 29 .leaf m.a6.length f')):=by
 simp[HQ,AV.get]at h ⊢
 have k:∀ l:List Int,hlC (bw l):=λl i k j e=>rfl
 cases H:Nat.beq 8 b with
 |true=>
  simp only[H]at h ⊢
  cases h
  exact⟨_,rfl,rfl, .inl ⟨rfl,λj e=>match j,e with
   |0,_ |1,_ |2,_ |3,_=>rfl
   |j+4,e=>absurd e (by show ¬ j+4<4;omega)⟩⟩
 |false=>
 simp[H]at h ⊢
 cases F:Nat.beq 114688 b with
 |true=>simp only[F]at h ⊢;cases h;exact⟨_,rfl,rfl, .inl ⟨rfl,k _⟩⟩
 |false=>
 simp[F]at h ⊢
 cases E:Nat.beq 114689 b with
 |true=>simp only[E]at h ⊢;cases h;exact⟨_,rfl,rfl, .inl ⟨rfl,k _⟩⟩
 |false=>
 simp[E]at h ⊢
 cases r:Nat.beq 114690 b with
 |true=>simp only[r]at h ⊢;cases h;exact⟨_,rfl,rfl, .inr ⟨(xc r).symm,rfl,rfl⟩⟩
 |false=>
 simp[r]at h ⊢
 cases u:Nat.beq 114691 b with
 |true=>simp only[u]at h ⊢;cases h;exact⟨_,rfl,rfl, .inl ⟨rfl,k _⟩⟩
 |false=>
 simp[u]at h ⊢
 cases s:Nat.beq 6 b with
 |true=>
  simp only[s]at h ⊢
  cases h
  exact⟨_,rfl,rfl, .inl ⟨rfl,λj e=>match j,e with
   |0,_ |1,_ |2,_ |3,_=>rfl
   |j+4,e=>absurd e (by show ¬ j+4<4;omega)⟩⟩
 |false=>simp only[s]at h;cases h
theorem zzj {B:Nat ->Prop} {w':World} {b n:Nat} {ty:TypeId} (M:z24 w F φ B b (.row ty .leaf n f)) (J:∀ g,(φ b).bV=some g ->w'.heap[g]? =w.heap[g]?) (K:∀ j,j<n ->∀ v,au w F v (z6 .leaf (f j) 0) ->au w' F v (z6 .leaf (f' j) 0)):z24 w' F φ B b (.row ty .leaf n f'):=by
 have⟨Q,e,N⟩:=M
 refine⟨Q,e,N.imp id ?_⟩
 rintro⟨g,R,h,H,E,y,x,u,s,r⟩
 refine⟨g,R,h,H,E,(J g h).trans y,x,u,s,λi m j k=>?_⟩
 obtain rfl:j=0:=by have :j<1:=k;omega
 exact K i m _ (r i m 0 k)
theorem Yb (h:Rel (z5c N m 45) W0 F0 ⟨env,HQ m f⟩ a w F φ) (E:∀ j,j<m.a6.length ->∀ v,au w F v (z6 .leaf (f j) 0) ->au w F v (z6 .leaf (f' j) 0)):Rel (z5c N m 45) W0 F0 ⟨env,HQ m f'⟩ a w F φ:=by
 refine⟨h.env,λb x s=>?_,λb K x U g J H=>?_,h.ro,h.base,h.sub,h.new,h.eR,h.iC,h.aoi,λb p k=>?_⟩
 . have⟨y,i,_,e⟩:=JE (f:=f) s
   have k:=h.heap b y i
   rcases e with⟨rfl,_⟩ | ⟨rfl,rfl,rfl⟩
   . exact k
   . exact zzj k (λ_ _=>rfl) E
 . have⟨y,i,_⟩:=JE (f:=f) J
   have⟨u,r,_⟩:=JE (f:=f) H
   exact h.inj b K y u g i r
 . have⟨R,Q,M⟩:=h.gV b p k
   exact⟨R,Q,λx s=>by
    have⟨y,i,e,_⟩:=JE (f:=f) s
    rw[e];exact M y i⟩
theorem acm {s:Nat} {v:Value} (e:a.tmps.size=45) (hs:s<45):(a.put (some s) v).tmps[s]? =some v:=by simp[Act.put,e,hs]
theorem aiq {s t:Nat} {v:Value} (e:t≠s):(a.put (some s) v).tmps[t]? =a.tmps[t]? :=by
 simp[Act.put];rw[ws (Ne.symm e)]
theorem agv (h:Rel (z5c N m 45) W0 F0 ⟨env,HQ m (fN N m)⟩ a w F φ) (hL:∀ k,¬ W0.L k) (hA:∀ b,W0.A b=none) (hG:∀ g x,AV.get (GN N) g=some x ->au W0.w F0 (.pointer (some ⟨g,0,none⟩)) x) (Z:∀ k,F0 k ->k<W0.w.heap.size)
 {g:Nat} {H:Array Value} (R:F g) (hN:¬ F0 g) (Q:∀ j,j<m.a6.length ->j≠c.toNat ->∀ u,au w F u (fN N m j) ->au (w.setRow g H) F u (fN N m j)) {U:Value} {x:AV} (V:au (w.setRow g H) F U x):
 Rel (z5c N m 45) W0 F0 ⟨AV.put (WM env) 38 x,HQ m (fU N m c)⟩ (a.put (some 38) U) (w.setRow g H) F φ:=by
 have a2:W0.w.heap.size<=g:=by
  rcases h.new g R with E |E |E
  . exact(hN E).elim
  . exact E
  . exact(hL g E).elim
 have J:∀ b y gb,AV.get (HQ m (fN N m)) b=some y ->(φ b).bV=some gb ->(w.setRow g H).heap[gb]? =w.heap[gb]? /\¬ F gb:=λb y gb K r=>by
  have :=((h.heap b y K).lt r).2.1
  exact⟨pC λe=>this (e ▸ R),this⟩
 refine⟨λs y hs=>?_,λb y hy=>?_,λb b' y y' gg E h2=>?_,λk M=>by rw[setRow_size];exact h.ro k M, ?_,h.sub,h.new,h.eR, ?_,λs y hs=>?_,λb p K=>by rw[hA b]at K;cases K⟩
 . by_cases e:s=38
   . subst e
     simp only[zv,xq]at hs
     subst hs
     exact⟨U,acm h.iC am, .stat V⟩
   . simp only[zb _ _ _ _ e]at hs
     have⟨X,i,e0⟩:=zsb hs
     have⟨v,E,h2⟩:=h.env s X i
     refine⟨v,by rw[aiq e];exact E, ?_⟩
     rcases e0 with⟨rfl,hl⟩ |rfl
     . exact zsa h2 hl
     . exact .eZ false (λh=>by cases h) λ_=> .inr rfl
 . have⟨X,i,_,e⟩:=JE (f:=fN N m) hy
   have K:=h.heap b X i
   rcases e with⟨rfl,hl⟩ | ⟨rfl,rfl,rfl⟩
   . exact z24.hl K hl λgb r=>J b _ gb i r
   . refine zzj K (λgb r=>(J _ _ gb i r).1) λj hj v V=>?_
     unfold fU
     by_cases e:j=c.toNat
     . rw[x9 e];exact .any _ (V.one rfl)
     . rw[x8 e];exact Q j hj e v V
 . have⟨z,hz,_⟩:=JE (f:=fN N m) E
   have⟨z',Y,_⟩:=JE (f:=fN N m) h2
   exact h.inj b b' z z' gg hz Y
 . exact h.base.trans (L':=λk=>k=g) ⟨rfl,rfl,rfl,by rw[setRow_size];exact xm _,λk _ M=>pC M⟩ λi hi a1=>by subst hi;omega
 . show(a.tmps.setIfInBounds 38 U).size=45
   rw[Array.size_setIfInBounds];exact h.iC
 . exact(hG s y hs).keep (λk M=>(pC λe:k=g=>hN (e ▸ M)).trans (h.base.block k (Z k M) (hL k))) h.sub
end
end Go.Proofs.S25
