import Derived.Test.YtgcpdfihjmmggaaGreatDoorXzb
import Derived.Test.YtgcpdfihjmmggaaGreatDoorXw
namespace Go.Proofs.S25
open Go Go.AV
open Go.IntKind renaming i64 -> j6
open Go.AV.Shape (leaf)
noncomputable section
variable (l:List bR) (p:ai) (b:Int) (s:ag) (t:aB) (i:aK) (a:Int) (k:Nat)
section
variable (s:ag)
def WE:Nat:=(dR (dR dI) (aE s.mem.a6)).length
def nj:=RR ((0:Nat))/\∀ (i:Nat),i<(0:Nat)->RR (AV.int j6 (List.getD [] i (0:Int)))
def pL:=(RR ((0:Nat))/\∀ (i:Nat),i<(0:Nat)->RR (ak (List.getD [] i ao)))/\(nj/\nj/\(RR ((0:Nat))/\∀ (i:Nat),i<(0:Nat)->RR (a8 (List.getD [] i [])))/\nj)/\RR ((0:Nat))/\∀ (i:Nat),i<(0:Nat)->RR (aA (List.getD [] i az))
def RN:=AV.bJ 42 0 s.ae.length true
variable (x0:Nat)
def CP:Nat:=0+(↑x0:Int).toNat
variable (x1:Nat)
def qrt:bR:=s.ae.getD (CP x1) az
end
theorem afm (hs:cw s) (h0:s.ae=[]):KF 124 [cx s] (ZS s) [eO s.ab]:=by
 refine nc (aca 69 (zyd s)) Tryz.func124 (KN 185 [AV.mc zm (aj s.mem)] (AV.mc zm (AV.agg [a8 (dR dI (a8 s.mem.vars)),a8 (dR dI (a8 s.mem.aa)),aE (dR (dR dI) (aE s.mem.a6)),a8 (dR dI (a8 s.mem.sig))]))/\mW s/\((0:Int)<=↑s.ab.length/\(↑s.ab.length:Int)<=(↑s.ab.length:Int)/\↑(152:Nat)*↑s.ab.length<=(140737488355328:Int)/\mW s)/\((↑s.ab.length:Int).toNat<=(↑s.ab.length:Int).toNat/\WC s)/\WC s/\(∃ (i:Nat),i<=List.length (ag.ab s)/\((↑(Int.toNat (↑(List.length (ag.ab s)):Int)):Int)=(↑(List.length (ag.ab s)):Int)/\(0:Int)=(↑i:Int))/\LS (ze s) (ze s)/\((0:Nat)=(0:Nat)/\((0:Nat)=(0:Nat)/\(0:Nat)=(0:Nat)/\(0:Nat)=(0:Nat)/\(0:Nat)=(0:Nat))/\(0:Nat)=(0:Nat))/\(Tb s/\(List.length (dR dI (a8 (Mem.vars (ag.mem s))))=List.length (Mem.vars (ag.mem s))/\∀ (i:Nat),i<List.length (dR dI (a8 (Mem.vars (ag.mem s))))->AV.int j6 (List.getD (dR dI (a8 (Mem.vars (ag.mem s)))) i (0:Int))=AV.int j6 (List.getD (Mem.vars (ag.mem s)) i (0:Int)))/\(List.length (dR dI (a8 (Mem.aa (ag.mem s))))=List.length (Mem.aa (ag.mem s))/\∀ (i:Nat),i<List.length (dR dI (a8 (Mem.aa (ag.mem s))))->AV.int j6 (List.getD (dR dI (a8 (Mem.aa (ag.mem s)))) i (0:Int))=AV.int j6 (List.getD (Mem.aa (ag.mem s)) i (0:Int)))/\(WE s=List.length (Mem.a6 (ag.mem s))/\∀ (i:Nat),i<WE s->a8 (List.getD (dR (dR dI) (aE (Mem.a6 (ag.mem s)))) i [])=a8 (List.getD (Mem.a6 (ag.mem s)) i []))/\List.length (dR dI (a8 (Mem.sig (ag.mem s))))=List.length (Mem.sig (ag.mem s))/\∀ (i:Nat),i<List.length (dR dI (a8 (Mem.sig (ag.mem s))))->AV.int j6 (List.getD (dR dI (a8 (Mem.sig (ag.mem s)))) i (0:Int))=AV.int j6 (List.getD (Mem.sig (ag.mem s)) i (0:Int)))/\Tb s/\∀ (i:Nat),i<Int.toNat (↑(List.length (ag.ab s)):Int)->(if i<min (List.length (ag.ab s)) (Int.toNat (↑(List.length (ag.ab s)):Int))then ak (List.getD (ag.ab s) i ao)else AV.agg (AV.int j6 (0:Int)::AV.int j6 (0:Int)::AV.int j6 (0:Int)::(AV.arr (8:Nat) λ(x:Nat)=>AV.int j6 (0:Int))::AV.int j6 (0:Int)::AV.int j6 (0:Int)::AV.int j6 (0:Int)::um))=ak (List.getD (ag.ab s) i ao))/\∀ i:Nat,i<=s.ab.length->(qc s i=true->af (↑i) s.ab.length/\KN 186 (Uc s i) (W4 s i)/\af (↑i) s.ab.length/\(↑i:Int).toNat<s.ab.length/\qa i/\(∃ j,j<=s.ab.length/\s.ab.length - j<s.ab.length - i/\(RR (↑s.ab.length:Int)/\qb i j)/\LS (ze s) (ze s)/\pL/\(RR s.ab.length/\LS (aj s.mem) (aj s.mem))/\RR s.ab.length/\∀ (i_1:Nat),i_1<s.ab.length->(if i_1=(↑i:Int).toNat then AV.agg ((AV.int j6 (s.ab.getD (↑i:Int).toNat ao).id::AV.int j6 (s.ab.getD (↑i:Int).toNat ao).fn::AV.int j6 (s.ab.getD (↑i:Int).toNat ao).pc::kT (s.ab.getD (↑i:Int).toNat ao).aw::AV.int j6 (s.ab.getD (↑i:Int).toNat ao).steps::AV.int j6 (s.ab.getD (↑i:Int).toNat ao).kids::AV.int j6 (s.ab.getD (↑i:Int).toNat ao).phase::AV.int j6 (s.ab.getD (↑i:Int).toNat ao).status::AV.int j6 (s.ab.getD (↑i:Int).toNat ao).fault::Uc s i).set 9 (aq (W4 s i)))else ak (s.ab.getD i_1 ao))=ak (s.ab.getD i_1 ao)))/\(qc s i=false->TL s/\((0:Int)<=↑s.ae.length/\(↑s.ae.length:Int)<=(↑s.ae.length:Int)/\↑(40:Nat)*↑s.ae.length<=(140737488355328:Int)/\TL s/\RR (↑s.ae.length:Int))/\(0+(↑s.ae.length:Int).toNat<=(↑s.ae.length:Int).toNat/\VQ s)/\VQ s/\(∃ i,i<=s.ae.length/\((↑(↑s.ae.length:Int).toNat:Int)=(↑s.ae.length:Int)/\0=(↑i:Int))/\LS (ze s) (ze s)/\pL/\(RR s.ab.length/\LS (aj s.mem) (aj s.mem)/\AV.bJ 42 0 (↑s.ae.length:Int).toNat true=RN s)/\nh s/\(↑s.ae.length:Int).toNat=s.ae.length/\∀ (i:Nat),i<(↑s.ae.length:Int).toNat->(if 0<=i/\i<0+min s.ae.length (↑s.ae.length:Int).toNat then aA (s.ae.getD (i - 0) az)else AV.agg um)=aA (s.ae.getD i az))/\∀ (i:Nat),i<=s.ae.length->(uJ s i=true->af (↑i:Int) s.ae.length/\KN 187 [bY (s.ae.getD (↑i:Int).toNat az).entries] (TQ s i)/\af (↑i:Int) s.ae.length/\CP i<s.ae.length/\qa i/\∃ j,j<=s.ae.length/\s.ae.length - j<s.ae.length - i/\(RR (↑s.ae.length:Int)/\qb i j)/\LS (ze s) (ze s)/\pL/\(RR s.ab.length/\LS (aj s.mem) (aj s.mem)/\RR (RN s))/\nh s/\RR s.ae.length/\∀ (i_1:Nat),i_1<s.ae.length->(if i_1=(0:Nat)+(↑i:Int).toNat then AV.agg ([AV.int j6 (qrt s i).ay,AV.int j6 (qrt s i).first,bY (qrt s i).entries].set (2:Nat) (aq (TQ s i)))else aA (s.ae.getD i_1 az))=aA (s.ae.getD i_1 az))/\(uJ s i=false->s.ae.length<=s.ae.length/\(RR s.ab.length/\LS (aj s.mem) (aj s.mem)/\(AV.bD c7 s.ae.length λi=>aA (s.ae.getD i az))=AV.bD c7 (0:Nat) λi=>aA ([].getD i az))/\nh s))) ?_
 try delta mW WC Tb WE um Uc W4 q9 qa qb nj pL qc TL VQ RN nh TQ CP qrt uJ
 simp only[SB,af]
 simp only[oR,iL]
 have h1:=hs.ab
 have hb:s.ae.length=0:=by rw[h0];rfl
 refine⟨Ew _ hs.mem,by omega,⟨by omega,by omega⟩,by omega,by omega,⟨0,by omega,rfl,trivial,λj hj=>by rw[x9 (by omega)]⟩,λi hi=>⟨λhlt=>⟨hlt,zqn _ (by have :=(hs.ok i).held;omega),hlt,hlt,za (by omega) (by omega),i+1,by omega,by omega,by omega,trivial,trivial,λj hj=>?_⟩,λhge=>⟨by omega,⟨by omega,by omega⟩,by omega,by omega,⟨0,by omega,rfl,trivial,trivial,λj hj=>by omega⟩,λk hk=>⟨λhlt=>by omega,λ_=>⟨trivial, ?_⟩⟩⟩⟩⟩
 . by_cases e:j=i
   . subst e;rw[x9 rfl];rfl
   . rw[x8 e]
 . rw[h0];rfl
theorem P5 {r:ag×Ev×Int} {n:Int} (h:r=(aN,aW,n)):(r.1.ab.length=0/\r.1.mem.vars.length=0/\r.1.mem.aa.length=0/\r.1.mem.a6.length=0/\r.1.mem.sig.length=0)/\(0=r.2.1.aC/\0=r.2.1.idx/\0=r.2.1.kind/\0=r.2.1.obj/\0=r.2.1.mutex/\0=r.2.1.entry/\0=r.2.1.ord/\0=r.2.1.read/\0=r.2.1.wrote)/\n=r.2.2:=by
 subst h;exact⟨⟨rfl,df⟩,⟨rfl,rfl,rfl,rfl,rfl,rfl,rfl,rfl,rfl⟩,rfl⟩
theorem NG {p:ai} {s:ag} {a:Int} (h:(bg p s a).2.2=true):0<=aS s.ab a/\cl p s a=s.ab.getD (aS s.ab a).toNat ao/\c5 p s a=zg p (cl p s a)/\cm p (cl p s a)=true:=by
 unfold cl c5
 unfold bg at h ⊢
 split at h
 . cases h
 . rename_i h0;rw[x8 h0];exact⟨by omega,rfl,rfl,h⟩
theorem zfz {l:List aB} {k:Nat} {t:aB} (j:Nat) (hk:k<l.length):(if j=k then ak t else ak (l.getD j ao))=ak ((l.set k t).getD j ao):=by
 rw[x7 (l:=l.set k t),gq]
 by_cases e:j=k
 . grind
 . rw[x8 e,x8 (λh=>e h.symm),x7]
theorem Yg {W:ag} {a:Int} {n:aB} {e:Ev} {r:ag×Ev×Int} (h8:vk W.ab) (h0:0<=aS W.ab a) (hr:r=({W with ab:=W.ab.set (aS W.ab a).toNat n},e,0)):
 (0<=max (aS (dR dT (aF W.ab)) a) 0/\max (aS (dR dT (aF W.ab)) a) 0<(W.ab.length:Int))/\(max (aS (dR dT (aF W.ab)) a) 0).toNat<W.ab.length/\
 (((W.ab.length=r.1.ab.length/\∀ i:Nat,i<W.ab.length ->(if i=(max (aS (dR dT (aF W.ab)) a) 0).toNat then ak n else ak (W.ab.getD i ao))=ak (r.1.ab.getD i ao))/\LS (aj W.mem) (aj r.1.mem))/\LS (bX e) (bX r.2.1)/\0=r.2.2):=by
 subst hr
 rw[nA h8,yc h0]
 have h1:=(nL h0).1
 exact⟨⟨h0,by omega⟩,h1,⟨⟨by simp,λi _=>zfz i h1⟩,fp rfl⟩,fp rfl,rfl⟩
theorem ae3 {p:ai} {b:Int} {s:ag} {a:Int} (h:(iu p b s a).2=0):(iu p b s a).1=⟨gB s.ab (ba p b (bP p s a).obj (c5 p s a).obj (bp (cl p s a) (c5 p s a).b)).1 (gK s.ab (bP p s a).obj),(cW p s a).1,[]⟩:=by
 unfold iu eH at h ⊢
 split at h
 . exact absurd h (by decide)
 . rename_i h1
   split at h
   . exact absurd h (by decide)
   . rename_i h2;rw[x8 h1,x8 h2]
section
variable (p:ai) (b:Int) (s:ag) (a:Int)
def xX:Nat:=(da p b s a).fst.ab.length
def Gy:=xX p b s a=0/\((da p b s a).fst.mem.vars.length=0/\(da p b s a).fst.mem.aa.length=0/\(da p b s a).fst.mem.a6.length=0/\(da p b s a).fst.mem.sig.length=0)/\RR 0
def oY:Ev:=(da p b s a).snd.fst
def pt:=0=(oY p b s a).aC/\0=(oY p b s a).idx/\0=(oY p b s a).kind/\0=(oY p b s a).obj/\0=(oY p b s a).mutex/\0=(oY p b s a).entry/\0=(oY p b s a).ord/\0=(oY p b s a).read/\0=(oY p b s a).wrote
def nX:Int:=(da p b s a).snd.snd
def Uv:=aV p b !=0
def M4:=!(bg p s a).snd.snd
def qru:=(!M4 p s a)=true
def Tm:=qru p s a->qru p s a
def yY:List AV:=[AV.mc aI (ze s),AV.mc zk (ak (cl p s a)),AV.mc zy (encI (c5 p s a))]
def G1:=M4 p s a||!z20 s (cl p s a) (c5 p s a)
def NM:=AV.bD c7 0 λi=>aA ([].getD i az)
def qrv:List AV:=[NM]
def AH:=AV.int j6 (cW p s a).snd.fst
def Hu:=(cW p s a).snd.snd !=0
variable (x4:Nat)
def Ei:=ak ((iu p b s a).fst.ab.getD x4 ao)
def II:=(iu p b s a).snd !=0
def SD:=KN 129 [AV.mc z7 (ah p),AV.int j6 b,AV.mc zk (ak (cl p s a)),AH p s a] (AV.av [AV.mc zk (ak (gY p b s a).fst),AV.int j6 (gY p b s a).snd])
def SM:=(gY p b s a).snd !=0
def Dc:=SM p b s a=true->Gy p b s a/\pt p b s a/\(gY p b s a).snd=nX p b s a
def qrw:Int:=max (aS (dR dT (aF (iu p b s a).fst.ab)) a) 0
def Gg:=(iu p b s a).fst.ab.length<=(iu p b s a).fst.ab.length
def TH:=ak ((da p b s a).fst.ab.getD x4 ao)
def I1:=RR NM
def XG:=LS (bX (bP p s a)) (bX (oY p b s a))/\0=nX p b s a
def Nt:=SM p b s a=false
def XC:=(bP p s a).kind==16
end
theorem af7 (hp:bI p) (hs:cw s) (hE:lz) (hq:(allI s.mem).length<400000) (hl:s.ab.length<1000000):KN 130 [vP p, .int .i64 b,cx s, .int .i64 a] (.av [tQ (da p b s a).1,dh (da p b s a).2.1, .int .i64 (da p b s a).2.2]):=by
 refine Kn (vSm p b s a 131) Tryz.func130 (KN 61 [AV.mc z7 (ah p),AV.int j6 b] (AV.int j6 (aV p b))/\(Uv p b=true->Gy p b s a/\pt p b s a/\aV p b=nX p b s a)/\(Uv p b=false->KN 176 [AV.mc z7 (ah p),AV.int j6 b,AV.mc aI (ze s)] (AV.bool (bT p b s))/\((!bT p b s)=true->Gy p b s a/\pt p b s a/\1=nX p b s a)/\((!bT p b s)=false->KN 195 [AV.mc z7 (ah p),AV.mc aI (ze s),AV.int j6 a] (AV.av [AV.mc zk (ak (cl p s a)),AV.mc zy (encI (c5 p s a)),AV.bool (bg p s a).snd.snd])/\Tm p s a/\Tm p s a/\Tm p s a/\(qru p s a->KN 178 (yY p s a) (AV.bool (z20 s (cl p s a) (c5 p s a))))/\Tm p s a/\Tm p s a/\(G1 p s a=true->Gy p b s a/\pt p b s a/\19=nX p b s a)/\(G1 p s a=false->KN 196 (yY p s a) (AV.mc bF (bX (bP p s a)))/\(KF (124:Nat) [AV.mc aI (ze s)] (AV.mc aI (AV.agg (AV.own (0:Nat) s.ab.length::aj s.mem::qrv))) [ar.row (51:TypeId) zk s.ab.length λi=>ak (s.ab.getD i ao)])/\KN 197 [AV.mc zm (aj s.mem),AV.mc zk (ak (cl p s a)),AV.mc zy (encI (c5 p s a)),AV.mc bF (bX (bP p s a))] (AV.av [AV.mc zm (aj (cW p s a).fst),AH p s a,AV.int j6 (cW p s a).snd.snd])/\(Hu p s a=true->Gy p b s a/\pt p b s a/\30=nX p b s a)/\(Hu p s a=false->KN 185 [AV.mc zm (aj (cW p s a).fst)] (AV.mc zm (aj (cW p s a).fst))/\(XC p s a=true->s.ab.length<=s.ab.length/\s.ab.length<=s.ab.length/\af (c5 p s a).b 8/\(KF (198:Nat) [AV.mc z7 (ah p),AV.int j6 b,AV.mc aI (AV.agg (aF s.ab::aj (cW p s a).fst::qrv)),AV.int j6 (bP p s a).obj,AV.int j6 (c5 p s a).obj,AV.int j6 ((cl p s a).aw.getD (c5 p s a).b.toNat (0:Int))] (AV.av [AV.mc aI (AV.agg (AV.own (0:Nat) (iu p b s a).fst.ab.length::aj (iu p b s a).fst.mem::qrv)),AV.int j6 (iu p b s a).snd]) [ar.row (51:TypeId) zk (iu p b s a).fst.ab.length λi=>Ei p b s a i])/\(II p b s a=true->Gy p b s a/\pt p b s a/\(iu p b s a).snd=nX p b s a)/\(II p b s a=false->SD p b s a/\Dc p b s a/\(Nt p b s a->KN 120 [aF (iu p b s a).fst.ab,AV.int j6 a] (AV.av [AV.int j6 (qrw p b s a),AV.bool (decide ((0:Int)<=aS (dR dT (aF (iu p b s a).fst.ab)) a))])/\Gg p b s a/\af (qrw p b s a) (iu p b s a).fst.ab.length/\(qrw p b s a).toNat<(iu p b s a).fst.ab.length/\Gg p b s a/\(((iu p b s a).fst.ab.length=xX p b s a/\∀ i:Nat,i<(iu p b s a).fst.ab.length->(if i=(max (aS (dR dT (aF (iu p b s a).fst.ab)) a) 0).toNat then ak (gY p b s a).fst else Ei p b s a i)=TH p b s a i)/\LS (aj (iu p b s a).fst.mem) (aj (da p b s a).fst.mem)/\I1)/\XG p b s a)))/\(XC p s a=false->SD p b s a/\Dc p b s a/\(Nt p b s a->KN 120 [aF s.ab,AV.int j6 a] (AV.av [AV.int j6 (ng s a),AV.bool (decide ((0:Int)<=aS (dR dT (aF s.ab)) a))])/\s.ab.length<=s.ab.length/\af (ng s a) s.ab.length/\(ng s a).toNat<s.ab.length/\s.ab.length<=s.ab.length/\((s.ab.length=xX p b s a/\∀ i:Nat,i<s.ab.length->(if i=(max (aS (dR dT (aF s.ab)) a) 0).toNat then ak (gY p b s a).fst else ak (s.ab.getD i ao))=TH p b s a i)/\LS (aj (cW p s a).fst) (aj (da p b s a).fst.mem)/\I1)/\XG p b s a))))))) ?_
 try delta xX Gy oY pt nX Uv M4 qru Tm yY G1 NM qrv AH Hu Ei II SD SM Dc qrw Gg TH I1 XG Nt XC ng
 simp only[SB,af]
 have ld:∀ {w:ag×Int},w=(if(bP p s a).kind=16 then eH p b {s with mem:=(cW p s a).1} (bP p s a).obj (c5 p s a).obj (bp (cl p s a) (c5 p s a).b)else({s with mem:=(cW p s a).1},0)) ->da p b s a=
  if aV p b≠0 then(aN,aW,aV p b)else if bT p b s=false then(aN,aW,1)else if(bg p s a).2.2=false∨z20 s (cl p s a) (c5 p s a)=false then(aN,aW,19)else if(cW p s a).2.2≠0 then(aN,aW,30)
  else if w.2≠0 then(aN,aW,w.2)else if(gY p b s a).2≠0 then(aN,aW,(gY p b s a).2)else({w.1 with ab:=w.1.ab.set (aS w.1.ab a).toNat (gY p b s a).1},bP p s a,0):=λh=>by subst h;rfl
 have lb:=ld rfl
 refine⟨ab7 p b hp,λh=>P5 (by rw[lb,x9 h]),λh1=>⟨zfq p b s hp hs,λh=>P5 (by rw[lb,x8 (by simp[h1]),x9 h]),λh2=>?_⟩⟩
 rw[x8 (by simp[h1]),x8 (by simp[h2])]at lb
 have V:=oP.1 h2
 have hb0:s.ae=[]:=xz V.2.1
 have I:(bg p s a).2.2=true ->dU (cl p s a)/\VW s.mem (c5 p s a):=λh=>by
  obtain⟨_,r2,r3,r4⟩:=NG h
  have ht:dU (cl p s a):=by rw[r2];exact hs.ok _
  have :=Ud hp ht V.1 r4
  rw[r3,this.2];exact⟨ht,this.1⟩
 refine⟨ZI p s a hp hs,λh=>abi s _ _ hs (I h).1 (I h).2,λh=>P5 (by rw[lb,x9 h]),λh3=>?_⟩
 rw[x8 (by simp[h3.1,h3.2])]at lb
 obtain⟨ht,hi⟩:=I h3.1
 obtain⟨r1,r2,r3,r4⟩:=NG h3.1
 have Z:=zre hs.mem hq (cl p s a) (c5 p s a) (bP p s a)
 refine⟨XT s _ _ hs ht hi,afm s hs hb0,ajs s.mem _ _ _ hs.mem hE,λh=>P5 (by rw[lb,x9 h]),λh4=>⟨Ew _ Z.1,λh5=>?_,λh5=>?_⟩⟩
 . rw[x8 (by simp[h4]),x9 h5]at lb
   have he:eH p b {s with mem:=(cW p s a).1} (bP p s a).obj (c5 p s a).obj (bp (cl p s a) (c5 p s a).b)=iu p b s a:=by
    unfold iu;rw[show({s with mem:=(cW p s a).1}:ag)=⟨s.ab,(cW p s a).1,[]⟩from by rw[<- hb0]]
   rw[he]at lb
   obtain⟨op,ob⟩:=z9s h5
   have hs1:cw ⟨s.ab,(cW p s a).1,[]⟩:=⟨hs.ab,hs.ok,Z.1,xt _,λ_=>xt _⟩
   refine⟨hi.b (by omega),ah5 p b ⟨s.ab,(cW p s a).1,[]⟩ _ _ _ hp hs1 (by have :=Zb (cl p s a);rw[show(bP p s a).obj=eU (cl p s a)from ob];omega),λh=>P5 (by rw[lb,x9 h]),λh6=>⟨z117 p b _ _ hp ht,λh=>P5 (by rw[lb,x8 (by simp[h6]),x9 h]),λh7=>?_⟩⟩
   rw[x8 (by simp[h6]),x8 (by simp[h7])]at lb
   have hw:=ae3 h6
   have hid:(bP p s a).obj<=9223372036854775807:=by have :=Zb (cl p s a);rw[show(bP p s a).obj=eU (cl p s a)from ob];omega
   have h8:vk (iu p b s a).1.ab:=λj=>by rw[hw];exact(zjj (uj _ _) hs.ok (zji hp hid) j).aw
   have h9:0<=aS (iu p b s a).1.ab a:=by rw[hw];exact zrc _ (uj _ _) r1
   have hl2:(iu p b s a).1.ab.length<=1000000:=by rw[hw];show(gB _ _ _).length<=_;rw[z9q _ _ _ (uj _ _)];omega
   exact⟨by rw[nA h8];exact Xi _ _ hl2 h8,Yg h8 h9 lb⟩
 . rw[x8 (by simp[h4]),x8 h5,x8 (by simp)]at lb
   refine⟨z117 p b _ _ hp ht,λh=>P5 (by rw[lb,x9 h]),λh7=>?_⟩
   rw[x8 (by simp[h7])]at lb
   exact⟨by rw[nA hs.r8];exact Xi _ _ hs.ab hs.r8,Yg (W:={s with mem:=(cW p s a).1}) hs.r8 r1 lb⟩
theorem zjl {p:ai} {b:Int} {s:ag} {a:Int} (hp:bI p) (hs:cw s) (hq:(allI s.mem).length<400000) (hl:s.ab.length<1000000):cw (da p b s a).1/\(allI (da p b s a).1.mem).length<=(allI s.mem).length+1/\(da p b s a).1.ab.length<=s.ab.length+1:=by
 have bad:∀ {r:ag×Ev×Int} {n:Int},r=(aN,aW,n) ->cw r.1/\(allI r.1.mem).length<=(allI s.mem).length+1/\r.1.ab.length<=s.ab.length+1:=λh=>by subst h;exact⟨zft,xt _,xt _⟩
 have ld:da p b s a=
  if aV p b≠0 then(aN,aW,aV p b)else if bT p b s=false then(aN,aW,1)else if(bg p s a).2.2=false∨z20 s (cl p s a) (c5 p s a)=false then(aN,aW,19)else if(cW p s a).2.2≠0 then(aN,aW,30)
  else if(if(bP p s a).kind=16 then eH p b {s with mem:=(cW p s a).1} (bP p s a).obj (c5 p s a).obj (bp (cl p s a) (c5 p s a).b)else({s with mem:=(cW p s a).1},0)).2≠0 then(aN,aW,(if(bP p s a).kind=16 then eH p b {s with mem:=(cW p s a).1} (bP p s a).obj (c5 p s a).obj (bp (cl p s a) (c5 p s a).b)else({s with mem:=(cW p s a).1},0)).2)
  else if(gY p b s a).2≠0 then(aN,aW,(gY p b s a).2)else({(if(bP p s a).kind=16 then eH p b {s with mem:=(cW p s a).1} (bP p s a).obj (c5 p s a).obj (bp (cl p s a) (c5 p s a).b)else({s with mem:=(cW p s a).1},0)).1 with ab:=(if(bP p s a).kind=16 then eH p b {s with mem:=(cW p s a).1} (bP p s a).obj (c5 p s a).obj (bp (cl p s a) (c5 p s a).b)else({s with mem:=(cW p s a).1},0)).1.ab.set (aS (if(bP p s a).kind=16 then eH p b {s with mem:=(cW p s a).1} (bP p s a).obj (c5 p s a).obj (bp (cl p s a) (c5 p s a).b)else({s with mem:=(cW p s a).1},0)).1.ab a).toNat (gY p b s a).1},bP p s a,0):=rfl
 by_cases h1:aV p b≠0
 . exact bad (by rw[ld,x9 h1])
 rw[x8 h1]at ld
 by_cases h2:bT p b s=false
 . exact bad (by rw[ld,x9 h2])
 rw[x8 h2]at ld
 by_cases h3:(bg p s a).2.2=false∨z20 s (cl p s a) (c5 p s a)=false
 . exact bad (by rw[ld,x9 h3])
 rw[x8 h3]at ld
 by_cases h4:(cW p s a).2.2≠0
 . exact bad (by rw[ld,x9 h4])
 rw[x8 h4]at ld
 have r3:(bg p s a).2.2=true:=by
  cases h:(bg p s a).2.2 with
  |true=>rfl
  |false=>exact absurd (.inl h) h3
 obtain⟨r1,r2,_,_⟩:=NG r3
 have ht:dU (cl p s a):=by rw[r2];exact hs.ok _
 have Z:=zre hs.mem hq (cl p s a) (c5 p s a) (bP p s a)
 have hn:dU (gY p b s a).1:=zm4 hp ht
 by_cases h5:(bP p s a).kind=16
 . simp only[x9 h5]at ld
   have hid:(bP p s a).obj<=9223372036854775807:=by
    have :=Zb (cl p s a)
    rw[show(bP p s a).obj=eU (cl p s a)from(z9s h5).2];omega
   unfold eH at ld
   by_cases h6:0<=aS s.ab (bP p s a).obj
   . exact bad (by rw[ld,x9 h6,x9 (by decide)])
   rw[x8 h6]at ld
   by_cases h7:(ba p b (bP p s a).obj (c5 p s a).obj (bp (cl p s a) (c5 p s a).b)).2≠0
   . exact bad (by rw[ld,x9 h7,x9 (by decide)])
   rw[x8 h7,x8 (λh=>h rfl)]at ld
   by_cases h8:(gY p b s a).2≠0
   . exact bad (by rw[ld,x9 h8])
   rw[x8 h8]at ld
   rw[ld]
   have hi:=z9q s.ab (ba p b (bP p s a).obj (c5 p s a).obj (bp (cl p s a) (c5 p s a).b)).1 (gK s.ab (bP p s a).obj) (uj _ _)
   exact⟨⟨by simp only[yy];omega,zfy (zjj (uj _ _) hs.ok (zji hp hid)) hn,Z.1,hs.ae,hs.cf⟩,Z.2,by simp only[yy];omega⟩
 . simp only[x8 h5]at ld
   rw[x8 (λh=>h rfl)]at ld
   by_cases h8:(gY p b s a).2≠0
   . exact bad (by rw[ld,x9 h8])
   rw[x8 h8]at ld
   rw[ld]
   exact⟨⟨by simp only[yy];omega,zfy hs.ok hn,Z.1,hs.ae,hs.cf⟩,Z.2,by simp only[yy];omega⟩
def fk:ag×Ev×Int:=da p b (bN s) a
def oOt:FuncId ->List AV ->Option AV
 |117,_=>some (fi s)
 |130,_=>some (.av [tQ (fk p b s a).1,dh (fk p b s a).2.1, .int .i64 (fk p b s a).2.2])
 |131,_=>some (aY s.ae)
 |132,[_, .int _ t]=>some (.av [.int .i64 (max (db s.ae t) 0), .bool (decide (0<=db s.ae t))])
 |_,_=>none
def vBl (ts:List aB):AV:= .seq c7 ts.length λj=>jG l (ts.getD j ao).id
noncomputable def vOt (p:ai) (b:Int) (s:ag) (a:Int) (n:Nat) (I:Nat ->Option Inv):bm:={C:=di n λ_ _=>false,CC:=eS Tryz.prog GG,b9:=λ_ _=>oOt p b s a,inv:=λ_=>none,sK:=I}
def ah9:Option Inv:=match Nat.beq k 6 with
 |true=>iw ((fk p b s a).1.ab.length) (λi=>⟨[(8, .ptr 8 []),(9, .ptr 9 []),(11, .ptr 11 []),(12, .ptr 12 []),(14,aY s.ae),(40,aF (fk p b s a).1.ab),(41, .int .i64 (fk p b s a).1.ab.length),(42, .int .i64 i)],[(8,fb aN),(9,Wl aW),(11, .cell 35 aI (.agg [aF (fk p b s a).1.ab,aj (fk p b s a).1.mem, .own 65 i])),(12,Wl (fk p b s a).2.1),(65,aa1 s.ae (fk p b s a).1.ab i)]⟩) λi=>(fk p b s a).2.2=0
 |false=>none
theorem akk (hp:bI p) (hs:cw s) (hE:lz) (hq:(allI s.mem).length<400000) (hl:s.ab.length<1000000):KN 130 [vP p, .int .i64 b,fi s, .int .i64 a] (.av [tQ (fk p b s a).1,dh (fk p b s a).2.1, .int .i64 (fk p b s a).2.2]):=
 (af7 p b (bN s) a hp hs.sc hE hq hl).weaken (args':=[vP p, .int .i64 b,fi s, .int .i64 a]) rfl ⟨zo1,zo1,⟨rfl,zo1,zo1,rfl,trivial⟩,zo1,trivial⟩
theorem zyg {l:List bR} {t:Int} (h:0<=db l t) (n:Nat) (f:Nat ->AV) (g:Nat ->AV) (hf:∀ j,j<n ->f j=g j) (hg:g n=jG l t) (j:Nat) (hj:j<n+1):
 (if j<n then f j else((List.replicate 1 (AV.agg [.int .i64 0, .int .i64 0, .ax])).set 0 (aA (l.getD (max (db l t) 0).toNat az))).getD (j - n) AV.any)=g j:=by
 split
 . grind
 . have e:j=n:=by omega
   subst e
   rw[yz,hg,yc h]
   unfold jG;rw[x9 h];rfl
theorem ZK {l:List bR} {t:Int} (h:¬ 0<=db l t) (n:Nat) (f:Nat ->AV) (g:Nat ->AV) (hf:∀ j,j<n ->f j=g j) (hg:g n=jG l t) (j:Nat) (hj:j<n+1):
 (if j<n then f j else((List.replicate 1 (AV.agg [.int .i64 0, .int .i64 0, .ax])).set 0 (.agg [.int .i64 t, .int .i64 0, .ax])).getD (j - n) AV.any)=g j:=by
 split
 . grind
 . have e:j=n:=by omega
   subst e
   rw[yz,hg]
   unfold jG;rw[x8 h];rfl
section
variable (p:ai) (b:Int) (s:ag) (a:Int)
def Zu:=bX (fk p b s a).snd.fst
def qj6:Int:=(fk p b s a).snd.snd
def qj7:Nat:=(dH p b s a).fst.ab.length
def De:=qj7 p b s a=0
def pX:Ev:=(dH p b s a).snd.fst
def Kz:=qj6 p b s a !=0
def sU:Nat:=(fk p b s a).fst.ab.length
def Ga:Int:=↑(sU p b s a)
def Mn:Int:=((fk p b s a).fst.ab.getD (Int.toNat 0) ao).id
def D9:=AV.int j6 (Mn p b s a)
def qrx:Int:=max (db s.ae (Mn p b s a)) 0
def qry:=decide (0<=db s.ae ((fk p b s a).fst.ab.getD (Int.toNat 0) ao).id)
def Zp:Nat:=0+1
def yM:=0<1/\↑Zp*↑(40:Nat)<=(140737488355328:Int)/\Zp<=9223372036854775807
variable (x4:Nat)
def Vc:=x4<=sU p b s a/\qj6 p b s a=0
def Jm:=RR s.ae.length/\∀ i:Nat,i<s.ae.length->RR (aA (s.ae.getD i az))
def Cd:aB:=(fk p b s a).fst.ab.getD x4 ao
def O6:=ak (Cd p b s a x4)
def FU:=x4<sU p b s a
def qj9:=RR (sU p b s a)/\∀ i:Nat,FU p b s a i->RR (O6 p b s a i)
def QU:=RR (Ga p b s a)
def Dh:=Jm s/\qj9 p b s a/\QU p b s a/\vh=↑x4
def Cs:=(0:Nat)=(0:Nat)/\((0:Nat)=(0:Nat)/\(0:Nat)=(0:Nat)/\(0:Nat)=(0:Nat)/\(0:Nat)=(0:Nat))/\(0:Nat)=(0:Nat)
def qja:=RR (0:Int)/\RR (0:Int)/\RR (0:Int)/\RR (0:Int)/\RR (0:Int)/\RR (0:Int)/\RR (0:Int)/\RR (0:Int)/\RR (0:Int)
def AZ:=LS (aj (fk p b s a).fst.mem) (aj (fk p b s a).fst.mem)
variable (x0:Nat)
def qrz:=Zp=x0
def FY:=qj9 p b s a/\AZ p b s a/\qrz x4
def qjb:=LS (Zu p b s a) (Zu p b s a)
def Uh:Nat:=x0 - 0
def xQ:=jG s.ae (Cd p b s a x4).id
def Lv:=x0<Zp
def Ip:=decide ((0:Int)<↑(fk p b s a).fst.ab.length)
def KX:aB:=(dH p b s a).fst.ab.getD x4 ao
def CM:=sU p b s a=qj7 p b s a/\∀ i:Nat,FU p b s a i->O6 p b s a i=ak (KX p b s a i)
def yR:=LS (aj (fk p b s a).fst.mem) (aj (dH p b s a).fst.mem)
def Pd:=jG s.ae (KX p b s a x4).id
def HM:=LS (Zu p b s a) (bX (pX p b s a))/\0=Vj p b s a
def PT:Int:=((fk p b s a).fst.ab.getD (↑x4:Int).toNat ao).id
def KO:=AV.int j6 (PT p b s a x4)
def qs0:Int:=max (db s.ae (PT p b s a x4)) 0
def qs1:=decide (0<=db s.ae ((fk p b s a).fst.ab.getD (↑x4:Int).toNat ao).id)
def ML:Nat:=sU p b s a - x4
variable (x5:Nat)
def Ki:=ML p b s a x5<ML p b s a x4
def zI:=Jm s/\qj9 p b s a/\QU p b s a/\q9 x4=↑x5
def Ep:=qj9 p b s a/\AZ p b s a/\qn x4 x5
def DG:=decide ((↑x4:Int)<(↑(fk p b s a).fst.ab.length:Int))
end
theorem acj (k a:Int) (hp:bI p) (hs:cw s) (hE:lz) (hq:(allI s.mem).length<400000) (hl:s.ab.length<1000000):KN 58 [nQ s k,vP p, .int .i64 b, .int .i64 a] (.av [.mc aI (.agg [aF (dH p b s a).1.ab,aj (dH p b s a).1.mem,vBl s.ae (dH p b s a).1.ab]),dh (dH p b s a).2.1, .int .i64 (dH p b s a).2.2]):=by
 refine Kn (vOt p b s a 70 (ah9 p b s a)) Tryz.func58 (KN 117 [AV.mc jP (AV.agg [ze s,AV.int j6 k])] (mF s)/\(KN 130 [AV.mc z7 (ah p),AV.int j6 b,mF s,AV.int j6 a] (AV.av [AV.mc aI (AV.agg [aF (fk p b s a).fst.ab,aj (fk p b s a).fst.mem,AV.bD c7 (0:Nat) λi=>aA ([].getD i az)]),AV.mc bF (Zu p b s a),AV.int j6 (qj6 p b s a)]))/\(Kz p b s a=true->(De p b s a/\((dH p b s a).fst.mem.vars.length=0/\(dH p b s a).fst.mem.aa.length=0/\(dH p b s a).fst.mem.a6.length=0/\(dH p b s a).fst.mem.sig.length=0)/\De p b s a)/\(0=(pX p b s a).aC/\0=(pX p b s a).idx/\0=(pX p b s a).kind/\0=(pX p b s a).obj/\0=(pX p b s a).mutex/\0=(pX p b s a).entry/\0=(pX p b s a).ord/\0=(pX p b s a).read/\0=(pX p b s a).wrote)/\qj6 p b s a=Vj p b s a)/\(Kz p b s a=false->KN 131 [aY s.ae] (aY s.ae)/\Ga p b s a<=9223372036854775807/\((Ip p b s a=true->af 0 (sU p b s a)/\KN 132 [aY s.ae,D9 p b s a] (AV.av [AV.int j6 (qrx p b s a),AV.bool (qry p b s a)])/\(qry p b s a=true->af (qrx p b s a) s.ae.length/\xV/\yM/\qf/\Xq/\(∃ j,Vc p b s a j/\Dh p b s a j/\Cs/\qja/\FY p b s a j/\qjb p b s a/\qrz j/\∀ (i:Nat),Lv i->(if i<0 then aA ([].getD i az)else(wV.set 0 (aA (s.ae.getD (qrx p b s a).toNat az))).getD (Uh i) AV.any)=xQ p b s a i))/\(qry p b s a=false->xV/\yM/\qf/\Xq/\(∃ j,Vc p b s a j/\Dh p b s a j/\Cs/\qja/\FY p b s a j/\qjb p b s a/\qrz j/\∀ (i:Nat),Lv i->(if i<0 then aA ([].getD i az)else(wV.set 0 (AV.agg (D9 p b s a::s7))).getD (Uh i) AV.any)=xQ p b s a i)))/\(Ip p b s a=false->(CM p b s a/\yR p b s a/\0=qj7 p b s a/\∀ i:Nat,i<0->aA ([].getD i az)=Pd p b s a i)/\HM p b s a))/\∀ i:Nat,Vc p b s a i->(DG p b s a i=true->af (↑i) (sU p b s a)/\KN 132 [aY s.ae,KO p b s a i] (AV.av [AV.int j6 (qs0 p b s a i),AV.bool (qs1 p b s a i)])/\(qs1 p b s a i=true->af (qs0 p b s a i) s.ae.length/\xV/\Xj i/\qf/\qa i/\(∃ j,Vc p b s a j/\Ki p b s a i j/\zI p b s a i j/\pL/\qja/\Ep p b s a i j/\qjb p b s a/\qn i j/\∀ (i_1:Nat),pk i i_1->(if i_1<i then xQ p b s a i_1 else(wV.set 0 (aA (s.ae.getD (qs0 p b s a i).toNat az))).getD (i_1 - i) AV.any)=xQ p b s a i_1))/\(qs1 p b s a i=false->xV/\Xj i/\qf/\qa i/\(∃ j,Vc p b s a j/\Ki p b s a i j/\zI p b s a i j/\pL/\qja/\Ep p b s a i j/\qjb p b s a/\qn i j/\∀ (i_1:Nat),pk i i_1->(if i_1<i then xQ p b s a i_1 else(wV.set 0 (AV.agg (KO p b s a i::s7))).getD (i_1 - i) AV.any)=xQ p b s a i_1)))/\(DG p b s a i=false->i<=i/\(CM p b s a/\yR p b s a/\i=qj7 p b s a/\∀ (i_1:Nat),i_1<i->xQ p b s a i_1=Pd p b s a i_1)/\HM p b s a))) ?_
 try delta mF Zu qj6 qj7 De pX Vj Kz sU Ga Mn D9 qrx qry xV Zp yM qf vh Xq Vc Jm Cd O6 FU qj9 QU Dh Cs qja AZ qrz FY qjb s7 wV Uh xQ Lv Ip KX CM yR Pd HM PT KO qs0 qs1 qd Xj q9 qa ML Ki zI nj pL qn Ep pk DG
 simp only[SB,af]
 simp only[iL,w6]
 have hm:=zjl (b:=b) (a:=a) hp hs.sc hq hl
 have h1:(fk p b s a).1.ab.length<=1000000:=hm.1.ab
 have h2:=hs.ae
 have fl:∀ {t:Int},0<=db s.ae t ->0<=max (db s.ae t) 0/\max (db s.ae t) 0<(s.ae.length:Int):=fun {t} h=>by have :=zlm s.ae t;omega
 refine⟨Pn s k,akk p b s a hp hs hE hq hl,λh=>?_,λh=>?_⟩
 . have e:dH p b s a=(aN,aW,(fk p b s a).2.2):=x9 h
   rw[e];exact⟨⟨rfl,df,rfl⟩,⟨rfl,rfl,rfl,rfl,rfl,rfl,rfl,rfl,rfl⟩,rfl⟩
 have e:dH p b s a=(rX (fk p b s a).1 s.ae,(fk p b s a).2.1,0):=x8 (not_not_intro h)
 have et:(dH p b s a).1.ab=(fk p b s a).1.ab:=by rw[e];rfl
 have em:(dH p b s a).1.mem=(fk p b s a).1.mem:=by rw[e];rfl
 have ee:(dH p b s a).2.1=(fk p b s a).2.1:=by rw[e]
 have ex:(dH p b s a).2.2=0:=by rw[e]
 rw[et,em,ee,ex]
 let G:Nat ->AV:=λj=>jG s.ae ((fk p b s a).1.ab.getD j ao).id
 refine⟨afn _ h2 hs.cf,by omega,⟨λh0=>⟨⟨by decide,h0⟩,zql _ _ h2,λhf=>⟨fl hf,by decide,by decide,za (by decide) (by decide),1,⟨by omega,h⟩,rfl,rfl,rfl,λj hj=>zyg hf 0 (λj=>aA (([]:List bR).getD j az)) G (λj hj=>by omega) rfl j hj⟩,λhf=>⟨by decide,by decide,za (by decide) (by decide),1,⟨by omega,h⟩,rfl,rfl,rfl,λj hj=>ZK hf 0 (λj=>aA (([]:List bR).getD j az)) G (λj hj=>by omega) rfl j hj⟩⟩,λh0=>⟨⟨⟨rfl,λ_ _=>rfl⟩,fp rfl,by omega,λj hj=>by omega⟩,fp rfl,rfl⟩⟩,λi hi=>⟨λhlt=>⟨hlt,zql _ _ h2,λhf=>⟨fl hf,by decide,by omega,za (by omega) (by omega),i+1,⟨by omega,h⟩,by omega,by omega,rfl,rfl,λj hj=>zyg hf i G G (λj hj=>rfl) rfl j hj⟩,λhf=>⟨by decide,by omega,za (by omega) (by omega),i+1,⟨by omega,h⟩,by omega,by omega,rfl,rfl,λj hj=>ZK hf i G G (λj hj=>rfl) rfl j hj⟩⟩,λhge=>⟨⟨⟨rfl,λ_ _=>rfl⟩,fp rfl,by omega,λ_ _=>rfl⟩,fp rfl,rfl⟩⟩⟩
theorem abb (k a:Int) (hp:bI p) (hs:cw s) (hE:lz) (hq:(allI s.mem).length<400000) (hl:s.ab.length<1000000):
 KN 58 [nQ s k,vP p, .int .i64 b, .int .i64 a] (.av [cx (dH p b s a).1,dh (dH p b s a).2.1, .int .i64 (dH p b s a).2.2]):=by
 have eb:∃ l,(dH p b s a).1.ae=eJ (dH p b s a).1.ab l (dH p b s a).1.ab.length/\(l=s.ae∨(dH p b s a).1.ab.length=0):=by
  unfold dH
  split
  . exact⟨[],rfl, .inr rfl⟩
  . exact⟨s.ae,rfl, .inl rfl⟩
 refine(acj p b s k a hp hs hE hq hl).imp λw F v h=>dx.jT (r:=[_,_,_]) (r':=[_,_,_]) (by rfl) (λj hj u hu=>?_) h
 match j,hj with
 |1,_ |2,_=>exact hu
 |0,_=>
  cases hu with
  |mc cs sh x hs hr=>
   refine .mc cs _ _ hs λj hj=>?_
   have h:=hr j hj
   match j,hj with
   |0,_ |1,_ |2,_ |3,_ |4,_=>exact h
   |5,_=>
    show au w F _ (aY (dH p b s a).1.ae)
    obtain⟨l,e1,e2⟩:=eb
    rw[e1]
    rcases e2 with rfl |e2
    . exact zqe (dH p b s a).1.ab s.ae _ (xm _) h
    . unfold vBl at h
      rw[e2]at h ⊢
      generalize cs.getD 5 undef=v at h ⊢
      cases h with
      |cH=>exact .cH _ _ _ _
      |seq g o n cap sh f cs h1 h2 h3 h4=>exact .cH _ _ _ _
def adx:FuncId ->List AV ->Option AV
 |65,[.seq _ n f]=>some (.own 0 n)
 |f,l=>qK f l
def ado:FuncId ->List AV ->Option (List ar)
 |65,[.seq _ n f]=>some [aox (dR dB (.seq c7 n f))]
 |f,l=>frM f l
noncomputable def ab0 (n:Nat):bu:={di n λ_ _=>false with fresh:=ado}
theorem zui (n:Nat):gn (ab0 n):=ll (by kernel_rfl)
noncomputable def vPu (n:Nat) (inv:Nat ->Option Inv):bm:={C:=ab0 n,CC:=eS Tryz.prog GG,b9:=λ_ _=>adx,inv:=inv}
theorem akl (hl:l.length<=1000000) (he:∀ j,(l.getD j az).entries.length<=1000000):KF 65 [aY l] (.own 0 l.length) [aox l]:=by
 refine nc (qJ 20 (ztu l)) Tryz.func65 ((∃ i,i<=l.length/\(LT (aY l)/\T7 l i/\(0:Int)=↑i)/\T7 l i)/\∀ i:Nat,i<=l.length->↑l.length<=(9223372036854775807:Int)/\(kW l i=true->af (↑i) l.length/\KN 140 [AV.mc c7 (aA (l.getD (↑i:Int).toNat az))] (AV.mc c7 (AV.agg [AV.int j6 (l.getD (↑i:Int).toNat az).ay,AV.int j6 (l.getD (↑i:Int).toNat az).first,bY (dR dE (bY (l.getD (↑i:Int).toNat az).entries))]))/\1*c7.size<=16777216/\(RR (List.take i l).length/\↑(nZ l i)*↑(40:Nat)<=(140737488355328:Int)/\nZ l i<=9223372036854775807)/\1<=1/\aM j6 (q9 i)/\(∃ j,j<=l.length/\l.length - j<l.length - i/\(LT (aY l)/\uD l i j/\q9 i=(↑j:Int))/\uD l i j/\∀ (i_1:Nat),i_1<nZ l i->(if i_1<(List.take i l).length then aA ((List.take i l).getD i_1 az)else((List.replicate 1 (AV.agg [AV.int j6 0,AV.int j6 0,AV.ax])).set 0 (aA (dB (aA (l.getD (↑i:Int).toNat az))))).getD (i_1 - (List.take i l).length) AV.any)=aA ((List.take j l).getD i_1 az)))/\(kW l i=false->(List.take i l).length=l.length/\(List.take i l).length=l.length/\∀ (i_1:Nat),i_1<(List.take i l).length->aA ((List.take i l).getD i_1 az)=aA (l.getD i_1 az))) ?_
 try delta T7 nZ q9 uD kW
 simp only[SZ]
 refine⟨⟨0,by omega,⟨rfl,rfl⟩,rfl⟩,λi hi=>⟨by omega,λhlt=>?_,λhge=>?_⟩⟩
 . have hn:(l.take i).length=i:=by rw[xr];omega
   have e:l.take (i+1)=l.take i++[l.getD i az]:=by
    simp_all
   refine⟨hlt,R9 _ (he i),by decide,by omega,za (by omega) (by omega),i+1,by omega,by omega, ?_, ?_⟩
   . rw[e];exact⟨by simp,by omega⟩
   . rw[e];exact⟨by simp,λj hj=>nS aA _ az _ _ j hj⟩
 . rw[xu (by omega)];exact⟨rfl,rfl,λ_ _=>rfl⟩
section
variable (l:List bR) (b:bR)
def qs2:Int:=max (db (dR dB (aY l)) b.ay) 0
def qs3:=decide (0<=db (dR dB (aY l)) b.ay)
def QW:=l.length<=(dR dB (aY l)).length
end
theorem ai5 (b:bR) (hl:l.length<=1000000) (he:∀ j,(l.getD j az).entries.length<=1000000) (hb:b.entries.length<=1000000):KN 74 [aY l,vB b] (aY (fc l b)):=by
 refine Kn (vPu 24 λ_=>none) Tryz.func74 ((KF (65:Nat) [aY l] (AV.own (0:Nat) l.length) [ar.row (68:TypeId) c7 (dR dB (aY l)).length λi=>aA ((dR dB (aY l)).getD i az)])/\KN 64 [aY l,AV.int j6 b.ay] (AV.av [AV.int j6 (qs2 l b),AV.bool (qs3 l b)])/\(qs3 l b=true->KN 140 [AV.mc c7 (aA b)] (AV.mc c7 (AV.agg [AV.int j6 b.ay,AV.int j6 b.first,bY (dR dE (bY b.entries))]))/\af (qs2 l b) l.length/\(qs2 l b).toNat<(dR dB (aY l)).length/\QW l/\l.length=(fc l b).length/\∀ i:Nat,i<l.length->(if i=(max (db (dR dB (aY l)) b.ay) 0).toNat then aA (dB (aA b))else aA ((dR dB (aY l)).getD i az))=aA ((fc l b).getD i az))/\(qs3 l b=false->QW l/\l.length=(fc l b).length/\∀ i:Nat,i<l.length->aA ((dR dB (aY l)).getD i az)=aA ((fc l b).getD i az))) ?_
 try delta qs2 qs3 QW
 simp only[SZ]
 have hf:=zlm l b.ay
 refine⟨akl l hl he,XX l _ hl,λh0=>?_,λh0=>?_⟩
 . have e:fc l b=l.set (db l b.ay).toNat b:=by unfold fc;rw[x9 h0]
   have em:max (db l b.ay) 0=db l b.ay:=by omega
   rw[e,em]
   refine⟨R9 b hb,⟨h0,hf.1⟩,by omega,by simp,λi hi=>?_⟩
   by_cases hx:i=(db l b.ay).toNat
   . grind
   . rw[x8 hx,x7,x7,List.getElem?_set_ne (by omega)]
 . have e:fc l b=l:=by unfold fc;rw[x8 h0]
   grind
def cr (e:Ev):Ev:=
 if i.op=18 then(if t.phase=0 then {e with kind:=12,mutex:=i.n}else if t.phase=1 then {e with kind:=13}else {e with kind:=9,obj:=i.n})
 else if i.op=19 then {e with kind:=14,read:=min (nK s.mem i.obj) 1}else if i.op=20 then {e with kind:=15,read:=nK s.mem i.obj}
 else if i.op=21 then {e with kind:=16,obj:=eU t}else if i.op=22 then {e with kind:=17,obj:=bp t i.b}else e
structure mA (m:Mem) (i:aK):Prop where
 ok:VW m i
 form:ca m=true
 b:0<=i.b/\i.b<8
 c:0<=i.c/\i.c<8
 ord:¬ (i.op=8∨i.op=9∨i.op=10∨i.op=11∨i.op=12∨i.op=14) ->i.ord=0
 v:(i.op=8∨i.op=9∨i.op=10∨i.op=11∨i.op=12∨i.op=14) ->0<=i.obj/\i.obj<m.vars.length
theorem zjm {m:Mem} (h:ca m=true) {x:Int} (hx:0<=x/\x<m.vars.length):(fo m x).1=m.vars.getD x.toNat 0:=by
 have e:bC m x m.vars.length=0:=by grind[bC]
 unfold fo;rw[e,x8 (λh=>h rfl)]
def oR3:FuncId ->List AV ->Option AV
 |42,[.seq _ n f, .int _ v]=>some (.bool (aQ (zw n f) v))
 |156,[_, .int _ v]=>some (.bool (xT s.ab v))
 |92,[.bool b]=>some (.int .i64 (ek b))
 |91,[.int _ f, .int _ a, .int _ b]=>some (.int .i64 (app f a b).1)
 |94,[_,_,_, .mc _ e]=>some (dh (cr s t i (jX e)))
 |45,[_,_,_]=>some (dh (aR s t i))
 |90,[_,_,_]=>some (.bool (z20 s t i))
 |88,[_, .int _ b,_]=>some (.bool (rZ p b s.ab))
 |41,[_, .int _ b,_]=>some (.bool (bT p b s))
 |150,[.int _ f, .int _ a, .int _ b]=>some (.av [.int .i64 (app f a b).1, .int .i64 (app f a b).2])
 |44,[_, .int _ v]=>some (.av [.int .i64 (max (aS s.ab v) 0), .bool (decide (0<=aS s.ab v))])
 |157,[_]=>some (.av [.int .i64 (eU t), .bool (cA t)])
 |102,[_, .int _ b, .mc _ t]=>some (.bool (fq p b (dT t)))
 |93,[_, .int _ v]=>some (.bool (iJ s.mem v))
 |89,[_,_]=>some (.bool (ec p s.mem))
 |87,[_]=>some (.bool ((zc p).1==0))
 |_,_=>none
noncomputable def tR (p:ai) (s:ag) (t:aB) (i:aK) (n:Nat) (I:Nat ->Option Inv):bm:={C:=di n λ_ _=>false,CC:=eS Tryz.prog GG,b9:=λ_ _=>oR3 p s t i,inv:=I}
def zrh (l:List Int) (v:Int) (k:Nat):Option Inv:=match Nat.beq k 2 with
 |true=>iw l.length (λj=>⟨[(0,a8 l),(1, .int .i64 v),(5, .int .i64 j)],[]⟩) λj=>∀ n,n<j ->l.getD n 0≠v
 |false=>none
def Xt (i:aK):Prop:=i.op<=14/\i.op≠13
instance (i:aK):Decidable (Xt i):=by unfold Xt;infer_instance
def iH (m:Mem) (i:aK):Int:=if Xt i then m.vars.getD i.obj.toNat 0 else 0
def zym:Option Inv:=match Nat.beq k 6 with
 |true=>some {ι:=Unit,S:=λ_=>⟨[(3, .ptr 3 []),(4, .ptr 4 []),(5, .ptr 5 []),(6, .ptr 6 []),(7, .ptr 7 []),(8, .int .i64 (bp t i.b)),(9, .int .i64 (bp t i.c)),(10, .int .i64 (iH s.mem i))],[(3,fb s),(4, .cell 51 zk (ak t)),(5, .cell 92 zy (encI i)),(6,Wl aW),(7,Wl {iP t i with ord:=i.ord})]⟩,μ:=λ_=>0,ok:=λ_=>True}
 |false=>none
def zrk:Option Inv:=match Nat.beq k 2 with
 |true=>iw s.ab.length (λj=>⟨[(1, .int .i64 b),(2,aF s.ab),(3, .ptr 3 []),(7, .int .i64 j)],[(3,iM p)]⟩) λj=>∀ n,n<j ->kg p b s.ab n
 |false=>none
end
end Go.Proofs.S25
