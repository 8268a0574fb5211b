import Derived.Test.YtgcpdfihjmmggaaGreatDoorXza
import Derived.Test.YtgcpdfihjmmggaaGreatDoorXv
import Derived.Test.YtgcpdfihjmmggaaGreatDoorXz
namespace Go.Proofs.S25
open Go Go.AV Tryz
open Go.IntKind renaming i64 -> j6
open Go.AV.ex (ey)
noncomputable section
variable (s:ja) (p:ai) (l:List i5) (t:i5) (m:i8) (k:Nat) (c:Int) (i:Int) (id:Int)
theorem pg:∀ (s t:List Int),s.Nodup ->(∀ x∈s,x∈t) ->s.length<=t.length
 | [],_,_,_=>ap
 |a::s,t,h,i=>by
  have k:=List.nodup_cons.1 h
  have j:a∈t:=i a ap
  have :=pg s (t.erase a) k.2 λx f=>(List.mem_erase_of_ne (λe:x=a=>k.1 (by rw[<- e];exact f))).2 (i x (by simp[f]))
  rw[List.length_erase_of_mem j]at this
  have :=List.length_pos_of_mem j
  simp;omega
theorem zho:∀ (l s:List Int),s.Nodup ->(∀ x∈s,x∈l) ->l.length<=s.length ->l.Nodup
 | [],_,_,_,_=>List.nodup_nil
 |a::t,s,hs,hm,hl=>by
  have e:a∉t:=λhat=>by
   have :=pg s t hs λx hx=>by
    rcases xv.1 (hm x hx)with rfl |h
    exact hat
    exact h
   simp at hl;omega
  refine List.nodup_cons.2 ⟨e,zho t (s.erase a) (hs.erase a) (λx hx=>?_) ?_⟩
  have h1:=(List.Nodup.mem_erase_iff hs).1 hx
  rcases xv.1 (hm x h1.2)with rfl |h
  exact(h1.1 rfl).elim
  exact h
  by_cases has:a∈s
  rw[List.length_erase_of_mem has];simp at hl;omega
  rw[List.erase_of_not_mem has];simp at hl;omega
theorem zxy (l:List Int):(bx l).length=l.length↔l.Nodup:=by
 have f:(bx l).Nodup:=(ri l).imp λh=>O;constructor;intro h;exact zho l _ f (λx e=>zix e) O;intro h;have :=pg l (bx l) h λx e=>z59.2 e;have :=rf l;omega
theorem nF (l:List Int) (hl:l.length<=1000000):KF 161 [a8 l] (.own 0 l.length) [.row 3 .ey l.length λi=> d9 (l.getD i 0)]:=by
 refine nc (kL 7 λ_=>none) func161 ((↑l.length*↑(8:Nat)<=(140737488355328:Int)/\l.length<=9223372036854775807)/\RR l.length/\RR l.length/\∀ i:Nat,i<l.length->RR (d9 (l.getD i 0))) ?_;simp only[SZ];omega
theorem zlu (l:List Int) (hl:l.length<=1000000):KN 161 [a8 l] (a8 l):=by
 refine Kn (kL 7 λ_=>none) func161 ((↑l.length*↑(8:Nat)<=(140737488355328:Int)/\l.length<=9223372036854775807)/\l.length<=l.length/\LT (a8 l)) ?_;simp only[SZ];omega
section
variable (m:i8) (x1:Nat)
def LI:=(0:Int)=↑x1/\LT (aj m)
variable (x2:Nat)
def Fm:=qb x1 x2/\LT (aj m)
def Bd:=kU (zw m.lT.length λi=>d9 (m.lT.getD i 0))
def KC:=!Bd m
def Kf:=m.lT.length=m9 m x1
def qrb:=x1<=(kw m).length/\∀ j:Nat,j<x1->0<=(kw m).getD j 0
def zW:=↑(kw m).length<=(9223372036854775807:Int)
def RF:List Int:=bx (zw (kw m).length λi=>d9 ((kw m).getD i 0))
def C1:Int:=↑(RF m).length
end
theorem aaz (u:m.eA.length<=1000000) (s2:m.aa.length<=1000000) (s3:m.a6.length<=1000000) (s4:m.lT.length<=1000000) (s5:m.a6.length<=4 ->(kw m).length<=500000):KN 148 [vM m] (.bool (ca m)):=by
 refine Kn {kL 97 (zxx m)with ZC:=λk=>match Nat.beq k 22 with |true=>[65] |false=>[]} func148 (Ux m/\rl m/\rl m/\(Tz m->UW m)/\rl m/\rl m/\qY m/\qY m/\(TX m->lk m)/\qY m/\qY m/\Z (qbp m) (false=ca m) ((∃ i,yG m i/\LI m i)/\∀ i:Nat,yG m i->Ux m/\Z (US m i) (af (↑i) m.eA.length/\rj m i/\rj m i/\rj m i/\(qhr m i->af (↑i) m.eA.length)/\rj m i/\rj m i/\rj m i/\Z (WR m i) (false=ca m) (qa i/\(∃ j,yG m j/\m.eA.length - j<m.eA.length - i/\Fm m i j))) ((∃ i,vp m i/\LI m i)/\∀ (i:Nat),vp m i->UW m/\Z (UI m i) (af (↑i:Int) m.aa.length/\Z (TU m i) (false=ca m) (qa i/\∃ j,vp m j/\m.aa.length - j<m.aa.length - i/\Fm m i j)) (KN 208 [a8 m.lT] (AV.bool (Bd m))/\Z (KC m) (false=ca m) (((↑m.lT.length:Int)*(↑(8:Nat):Int)<=(140737488355328:Int)/\m.lT.length<=(9223372036854775807:Nat))/\(∃ i,i<=m.a6.length/\(Kf m i/\(0:Int)=(↑i:Int))/\LT (aj m)/\Kf m i/\∀ (i_1:Nat),i_1<m.lT.length->AV.int j6 (m.lT.getD i_1 (0:Int))=vq m i i_1)/\∀ (i:Nat),i<=m.a6.length->lk m/\Z (qj m i) (af (↑i:Int) m.a6.length/\(RR (m9 m i)/\(↑(sB m i):Int)*(↑(8:Nat):Int)<=(140737488355328:Int)/\sB m i<=(9223372036854775807:Nat))/\qa i/\∃ j,j<=m.a6.length/\qi m j<qi m i/\(WQ m i j/\qb i j)/\LT (aj m)/\WQ m i j/\∀ (i_1:Nat),i_1<sB m i->(if i_1<(m.lT++(List.take i m.a6).flatten).length then vq m i i_1 else AV.int j6 ((m.a6.getD (↑i:Int).toNat []).getD (i_1 - m9 m i) (0:Int)))=vq m j i_1) ((∃ i_1,qrb m i_1/\m9 m i<=m9 m i/\LS (a8 (TW m i)) (a8 (kw m))/\(0:Int)=(↑i_1:Int))/\∀ (i:Nat),qrb m i->zW m/\Z (XE m i) (af (↑i:Int) (kw m).length/\Z (Wz m i) (false=ca m) (qa i/\∃ j,qrb m j/\(kw m).length - j<(kw m).length - i/\LT (a8 (kw m))/\qb i j)) (KN 82 [a8 (kw m)] (a8 (RF m))/\aH (C1 m)/\zW m/\(C1 m==(↑(kw m).length:Int))=ca m))))))) ?_;try delta Z aH Ux qou Tz rl UW qov TX qY lk qbp yG LI qox qhr rj WR q9 qa qb Fm US vp TU UI Bd KC TW m9 Kf vq sB qi WQ qj qrb zW Wz XE RF C1
 simp only[SZ];simp only[oR];have hA:kw m=m.lT++m.a6.flatten:=rfl;have hAl:(kw m).length=m.lT.length+m.a6.flatten.length:=by rw[hA,xl]
 refine⟨O,λ_=>O,λ_=>O,λh=>ua λM=>?_,λh0=>⟨⟨0,⟨O,λj hj=>O⟩,rfl⟩,λi hi=>⟨O,λhlt=>⟨hlt,λ_=>hlt,λh=>ua λM=>?_,λh=>⟨f9,i+1,⟨O,λj hj=>?_⟩,O,O⟩⟩,λhge=>?_⟩⟩⟩;have h1:=M.eA;have h2:=M.aa;have h3:=M.a6;omega;have :=M.uZ _ (oI hlt);omega;by_cases f:j=i;subst f;exact oh.2 O;exact hi.2 j O;have hv:∀ x∈m.eA,bZ x=true:=λx hx=>by
  obtain⟨j,hj,rfl⟩:=yq hx;have :=hi.2 j O;simpa [x7,hj]using this
 clear hi hge;refine⟨⟨0,⟨O,λj hj=>O⟩,rfl⟩,λi hi=>⟨O,λhlt=>⟨hlt,λh=>ua λM=>?_,λh=>⟨f9,i+1,⟨O,λj hj=>?_⟩,O,O⟩⟩,λhge=>?_⟩⟩;have :=M.own _ (oI hlt);omega;by_cases f:j=i;subst f;omega;exact hi.2 j O;have ho:∀ x∈m.aa,-1<=x:=λx hx=>by
  obtain⟨j,hj,rfl⟩:=yq hx;have :=hi.2 j O;simpa [x7,hj]using this
 clear hi hge;have s5:=s5 O;refine⟨akf _ O,λh=>ua λM=>?_,λhvs=>⟨⟨O,O⟩,⟨0,O,⟨ap,rfl⟩,ap,λj hj=>ap⟩,λi hi=>⟨O,λhlt=>?_,λhge=>?_⟩⟩⟩;rw[Qa.2 M.mO]at h;cases h;have h1:=zd0 m.a6 i hlt;have h2:=zja m.a6 i;have h3:=TJ m.a6 i;have h4:(m.lT++(m.a6.take i).flatten).length<=1000000:=by rw[xl];omega
 refine⟨hlt,⟨O,O⟩,f9,i+1,hlt,O, ?_⟩;rw[h1,<- wq];exact⟨⟨by rw[xl (bs:=m.a6.getD i [])],O⟩,by rw[xl (bs:=m.a6.getD i [])],λj hj=>zwu _ _ j⟩;have e:m.lT++(m.a6.take i).flatten=kw m:=by rw[xu (by omega:m.a6.length<=i),hA]
 rw[e];clear hi hge;refine⟨⟨0,⟨O,λj hj=>O⟩,⟨rfl,λ_ _=>rfl⟩,rfl⟩,λi hi=>⟨O,λhlt=>⟨hlt,λh=>ua λM=>?_,λh=>⟨f9,i+1,⟨O,λj hj=>?_⟩,O,O⟩⟩,λhge=>⟨zw4 _ O,by have :=rf (kw m);omega,O, ?_⟩⟩⟩;have :=M.pos _ (oI hlt);omega;by_cases f:j=i;subst f;omega;exact hi.2 j O;have hp:∀ x∈kw m,0<=x:=λx hx=>by
  obtain⟨j,hj,rfl⟩:=yq hx;have :=hi.2 j O;simpa [x7,hj]using this
 rw[wk,xo];constructor;intro h;exact z47.2 ⟨O,O,O,Qa.1 hvs,λx hx=>oh.1 (hv x hx),ho,hp,(zxy _).1 O⟩;intro h;have :=(zxy _).2 (z47.1 h).nd;omega
theorem lu (e:MWk m):KN 148 [vM m] (.bool (ca m)):=aaz m e.eA e.aa e.a6 e.lT λh=>by have :=e.all h;omega
def e9 (fr:Int):Int:=if bC m i m.aa.length≠0 then bC m i m.aa.length else if id<0 then 2 else if m.aa.getD i.toNat 0≠fr then 30 else 0
def aab:FuncId ->List AV ->Option (AV×ar)
 |161,[.seq _ n f]=>some (.own 0 n,bw (zw n f))
 |_,_=>none
def aaf:FuncId ->List AV ->Option AV
 |161,[.seq _ n f]=>some (a8 (zw n f))
 |148,[.mc _ m]=>some (.bool (ca (dM m)))
 |101,[.mc _ m]=>some (va (dM m))
 |158,[.mc _ m, .int _ i, .int _ id, .int _ e]=>some (d9 (e9 (dM m) i id e))
 |f,l=>spM f l
def alh:FuncId ->List AV ->Option (List ar)
 |101,[.mc _ m]=>some (zeb (dM m))
 |f,l=>frI f l
noncomputable def XZ (n:Nat) (mk:FuncId ->Nat ->Bool):ls:={jE n with fresh:=alh,Vs:=aab,mU:=mk}
noncomputable def sF (n:Nat) (mk:Nat ->Bool) (inv:Nat ->Option lm):bm:={C:=XZ n λf d=>Nat.beq f 161&&mk d,CC:=mp prog GG,b9:=λ_ _=>aaf,inv:=inv}
def zeh:Option lm:=match Nat.beq k 3 with
 |true=>iv m.a6.length λi=>⟨[(1, .ptr 1 []),(2, .ptr 2 []),(3, .ptr 3 []),(4,d9 i)],[(1,iY m),(2,iY du),(3, .cell 32 zm (.agg [.own 7 m.eA.length, .own 10 m.aa.length, .own 31 (m.a6.take i).length, .own 13 m.lT.length])),(7,bw m.eA),(10,bw m.aa),(31,tM (m.a6.take i)),(13,bw m.lT)]⟩
 |false=>none
theorem po {m:i8} {i n:Int} (e:ca m):bC m i n=if i<0∨n<=i then 11 else 0:=by grind[bC]
theorem zhp {m:i8} {i n:Int} (e:ca m=false):bC m i n=1:=by
 unfold bC;rw[x9 e]
theorem zhq {m:i8} {i id e:Int} (h:e9 m i id e=0):bC m i m.aa.length=0/\¬ id<0/\m.aa.getD i.toNat 0=e:=by
 unfold e9 at h;omega
theorem zr5 {m:i8} {i id e f:Int} (h:¬ e9 m i id e=0):bc m i id e f=(du,e9 m i id e):=by grind[e9,bc]
theorem zy2 {m:i8} {i id f e:Int} (h:e9 m i id f=0):bc m i id f e=({m with aa:=m.aa.set i.toNat e},0):=by
 have⟨a,b,c⟩:=zhq h;unfold bc;rw[x8 (by simp[a]),x8 b,x8 (by simp only[ne_eq,ye];exact c)]
section
variable (m:i8) (x1:Nat)
def oi:=(List.take x1 m.a6).length=0
def lU:Nat:=(List.take x1 m.a6).length+1
variable (x2:Nat)
def oH:=lU m x1=(List.take x2 m.a6).length
def oA:=a8 ((List.take x1 m.a6).getD x2 [])
def uP:=(List.take x1 m.a6).length=m.a6.length
end
theorem QP (h:dk m):KF 101 [vM m] (va m) (zeb m):=by
 refine nc (sF 34 (λd=>Nat.beq d 7 || (Nat.beq d 10 || Nat.beq d 13)) (zeh m)) func101 ((KF (161:Nat) [a8 m.eA] (AV.own (0:Nat) m.eA.length) [ar.row (3:TypeId) ey (ql m) λi=>qu m i])/\(KF (161:Nat) [a8 m.aa] (AV.own (0:Nat) m.aa.length) [ar.row (3:TypeId) ey (qm m) λi=>qv m i])/\(KF (161:Nat) [a8 m.lT] (AV.own (0:Nat) m.lT.length) [ar.row (3:TypeId) ey (qk m) λi=>qo m i])/\(∃ (i:Nat),i<=List.length (i8.a6 m)/\(0:Int)=(↑i:Int)/\LT (aj m)/\(bt/\bt/\bt/\bt)/\(RR (List.length (i8.eA m))/\RR (List.length (i8.aa m))/\oi m i/\RR (List.length (i8.lT m)))/\(ql m=List.length (i8.eA m)/\∀ (i:Nat),i<ql m->qu m i=AV.int j6 (List.getD (i8.eA m) i (0:Int)))/\(qm m=List.length (i8.aa m)/\∀ (i:Nat),i<qm m->qv m i=AV.int j6 (List.getD (i8.aa m) i (0:Int)))/\oi m i/\qk m=List.length (i8.lT m)/\∀ (i:Nat),i<qk m->qo m i=AV.int j6 (List.getD (i8.lT m) i (0:Int)))/\∀ i:Nat,i<=m.a6.length->aH ↑m.a6.length/\Z (qj m i) (af (↑i) m.a6.length/\KN 161 [a8 (m.a6.getD (↑i:Int).toNat [])] (mE m i)/\1*ey.size<=16777216/\(RR (List.take i m.a6).length/\↑(lU m i)*↑(24:Nat)<=(140737488355328:Int)/\lU m i<=9223372036854775807)/\1<=1/\aM j6 (q9 i)/\(∃ j,j<=m.a6.length/\qi m j<qi m i/\q9 i=↑j/\LT (aj m)/\(LT (a8 [])/\LT (a8 [])/\LT (aE [])/\LT (a8 []))/\(RR m.eA.length/\RR m.aa.length/\oH m i j/\RR m.lT.length)/\lp m/\lg m/\(oH m i j/\∀ (f:Nat),f<lU m i->(if f<(List.take i m.a6).length then oA m i f else((List.replicate 1 AV.ax).set 0 (aq (mE m i))).getD (f - (List.take i m.a6).length) AV.any)=oA m j f)/\mw m)) ((RR m.eA.length/\RR m.aa.length/\uP m i/\RR m.lT.length)/\lp m/\lg m/\(uP m i/\∀ (f:Nat),f<(List.take i m.a6).length->oA m i f=a8 (m.a6.getD f []))/\mw m)) ?_;try delta Z aH bt sQ ql qu tZ qm qv qB qk qo oi mE lU q9 qi oH lp lg oA mw qj uP
 simp only[SZ];simp only[oR];have s3:=h.a6;refine⟨nF _ h.eA,nF _ h.aa,nF _ h.lT,⟨0,O,rfl,ap⟩,λi hi=>⟨O,λhlt=>?_,λhge=>?_⟩⟩;have k:(m.a6.take i).length=i:=by rw[xr];omega
 have e:m.a6.take (i+1)=m.a6.take i++[m.a6.getD i []]:=by
  simp_all
 refine⟨hlt,zlu _ (h.q i),am,⟨O,O⟩,f9,i+1,O,O,O, ?_⟩;rw[e];exact⟨ap,ap,λj hj=>nS a8 _ [] _ _ j hj⟩;rw[xu O];exact⟨rfl,rfl,λ_ _=>rfl⟩
section
variable (m:i8)
def PQ:=ca (dM (aj m))=true->ca (dM (aj m))=true
variable (i:Int)
def Aj:=ca (dM (aj m))&&decide (0<=i)
def qrc:=Aj m i=true
def WZ:=qrc m i->qrc m i
def PO:=Aj m i&&decide (i<↑m.aa.length)
def qrd:=PO m i=true
def GD:=qrd m i->qrd m i
end
theorem zjh (e:dk m):KN 93 [vM m,d9 i] (.bool (iJ m i)):=by
 refine Kn (sF 26 (λ_=>false) λ_=>none) func93 (KN 148 [AV.mc zm (aj m)] (AV.bool (ca (dM (aj m))))/\PQ m/\PQ m/\WZ m i/\WZ m i/\(qrc m i->aH ↑m.aa.length)/\WZ m i/\WZ m i/\WZ m i/\GD m i/\GD m i/\GD m i/\(qrd m i->af i m.aa.length)/\GD m i/\GD m i/\GD m i/\(PO m i&&m.aa.getD i.toNat 0== -1)=iJ m i) ?_;try delta aH PQ Aj qrc WZ PO qrd GD
 simp only[SZ];have j:=e.aa;refine⟨lu m e.wo,λ_=>O,λh=>⟨h.1.2,h.2⟩, ?_⟩;unfold iJ;cases f:ca m with
 |false=>rw[zhp f];simp
 |true=>
  rw[po f];by_cases h:i<0∨(m.aa.length:Int)<=i;rw[x9 h];rcases h with h |h;rw[show decide (0<=i)=false from co];simp;rw[show decide (i<(m.aa.length:Int))=false from co];simp;grind
section
variable (m:i8) (i:Int)
def Cv:=qht i||decide (↑m.aa.length<=i)
variable (fr:Int)
def R5:=m.aa.getD i.toNat 0 !=fr
end
theorem zlx (fr:Int) (hm:dk m):KN 158 [vM m,d9 i,d9 id,d9 fr] (d9 (e9 m i id fr)):=by
 refine Kn (sF 30 (λ_=>false) λ_=>none) func158 (KN 148 [AV.mc zm (aj m)] (AV.bool (ca (dM (aj m))))/\Z (!ca (dM (aj m))) (1=e9 m i id fr) (rn i/\rn i/\(YP i->aH ↑m.aa.length)/\rn i/\rn i/\rn i/\Z (Cv m i) (11=e9 m i id fr) (Z (pw id) (2=e9 m i id fr) (af i m.aa.length/\Z (R5 m i fr) (30=e9 m i id fr) (0=e9 m i id fr))))) ?_;try delta Z aH qht YP rn Cv pw R5
 simp only[SZ];have s1:=hm.aa;refine⟨lu m hm.wo,λh=>?_,λh=>⟨λ_=>O,λh2=>?_,λh2=>⟨λh3=>?_,λh3=>⟨⟨O,O⟩,λh4=>?_,λh4=>?_⟩⟩⟩⟩;grind[e9,zhp];grind[e9,po];unfold e9;rw[po h,x8 O,x9 h3];unfold e9;rw[po h,x8 O,x8 h3,x9 h4];unfold e9;rw[po h,x8 O,x8 h3,x8 (by simp;exact h4)]
theorem zy3 (e:bI p) (f:MWk m):KN 89 [vP p,vM m] (.bool (ec p m)):=by
 refine Kn (sF 38 (λ_=>false) λ_=>none) func89 (KN 87 [AV.mc z7 (ah p)] (AV.bool (WO p))/\Xv p/\(Vh p->KN 148 [AV.mc zm (aj m)] (AV.bool (ca (dM (aj m)))))/\Xv p/\lZ p m/\lZ p m/\(vz p m->aH ↑m.eA.length)/\lZ p m/\lZ p m/\(vz p m->aH ↑p.eA.length)/\lZ p m/\lZ p m/\lZ p m/\ma p m/\ma p m/\(wT p m->aH ↑m.aa.length)/\ma p m/\ma p m/\(wT p m->aH ↑p.aP.length)/\ma p m/\ma p m/\ma p m/\lY p m/\lY p m/\(vW p m->aH ↑m.a6.length)/\lY p m/\lY p m/\(vW p m->aH ↑p.kC.length)/\lY p m/\lY p m/\lY p m/\(qhv p m&&(↑m.a6.length:Int)==(↑p.kC.length:Int))=ec p m) ?_;try delta aH WO Vh Xv qp3 vz lZ qp4 wT ma qhv vW lY
 simp only[SZ];have h:=f.aa;have s2:=f.eA;have s3:=f.a6;have k:=e.eA;have j:=e.aP;have i:=e.kC;refine⟨zoj p e,λ_=>lu m f,λ_=>O,λ_=>O,λ_=>O,λ_=>O,λ_=>O,λ_=>O, ?_⟩;grind[ec]
section
variable (x:Int)
def qre:=(!so x)=true
def Td:=qre x->qre x
end
section
variable (m:i8) (x:Int)
def Bk:=so x||decide (↑m.eA.length<=x)
end
theorem zfx (x v:Int) (f:dk m):KN 73 [vM m,d9 x,d9 v] (.av [vM (zr m x v).1,d9 (zr m x v).2]):=by
 refine Kn (sF 38 (λ_=>false) λ_=>none) func73 (KN 148 [AV.mc zm (aj m)] (AV.bool (ca (dM (aj m))))/\Z (!ca (dM (aj m))) (DS m x v/\1=(zr m x v).snd) (Td x/\Td x/\(qre x->aH ↑m.eA.length)/\Td x/\Td x/\Td x/\Z (Bk m x) (DS m x v/\11=(zr m x v).snd) (oD v/\oD v/\Z (oZ v) (DS m x v/\2=(zr m x v).snd) ((KF (101:Nat) [AV.mc zm (aj m)] (AV.mc zm (AV.agg [AV.own (0:Nat) (dR dI (a8 m.eA)).length,AV.own (1:Nat) (dR dI (a8 m.aa)).length,AV.own (2:Nat) (dR (dR dI) (aE m.a6)).length,AV.own (3:Nat) (dR dI (a8 m.lT)).length])) [ar.row (3:TypeId) ey (dR dI (a8 m.eA)).length λi=>v7 m i,ar.row (3:TypeId) ey (dR dI (a8 m.aa)).length λi=>d9 ((dR dI (a8 m.aa)).getD i (0:Int)),ar.row (29:TypeId) ey (dR (dR dI) (aE m.a6)).length λi=>a8 ((dR (dR dI) (aE m.a6)).getD i []),ar.row (3:TypeId) ey (dR dI (a8 m.lT)).length λi=>d9 ((dR dI (a8 m.lT)).getD i (0:Int))])/\af x (dR dI (a8 m.eA)).length/\x.toNat<(dR dI (a8 m.eA)).length/\(dR dI (a8 m.eA)).length<=(dR dI (a8 m.eA)).length/\(dR dI (a8 m.aa)).length<=(dR dI (a8 m.aa)).length/\(dR (dR dI) (aE m.a6)).length<=(dR (dR dI) (aE m.a6)).length/\(dR dI (a8 m.lT)).length<=(dR dI (a8 m.lT)).length/\(((dR dI (a8 m.eA)).length=(zr m x v).fst.eA.length/\∀ i:Nat,i<(dR dI (a8 m.eA)).length->(if i=x.toNat then aq (aq (d9 v))else v7 m i)=d9 ((zr m x v).fst.eA.getD i 0))/\LS (a8 (dR dI (a8 m.aa))) (a8 (zr m x v).fst.aa)/\LS (aE (dR (dR dI) (aE m.a6))) (aE (zr m x v).fst.a6)/\LS (a8 (dR dI (a8 m.lT))) (a8 (zr m x v).fst.lT))/\0=(zr m x v).snd)))) ?_;try delta Z aH DS so qre Td Bk Vt U5 oD oZ v7
 simp only[SZ];have k:=f.eA;refine⟨lu m f.wo,λh=>?_,λh=>⟨λ_=>O,λh2=>?_,λh2=>⟨λh3=>?_,λh3=>⟨QP m f,⟨O,O⟩,O, ?_⟩⟩⟩⟩;have e:zr m x v=(du,1):=by unfold zr;rw[zhp h,x9 am]
 rw[e];exact⟨df,rfl⟩;have e:zr m x v=(du,11):=by unfold zr;rw[po h,x9 O,x9 O]
 rw[e];exact⟨df,rfl⟩;have e:zr m x v=(du,2):=by unfold zr;rw[po h,x8 O,x9 h3]
 rw[e];exact⟨df,rfl⟩;have e:zr m x v=({m with eA:=m.eA.set x.toNat v},0):=by unfold zr;rw[po h,x8 O,x8 O]
 rw[e];exact⟨⟨⟨ap,λj hj=>setRow _ _ _ j hj⟩,⟨rfl,λ_ _=>rfl⟩,⟨rfl,λ_ _=>rfl⟩,rfl,λ_ _=>rfl⟩,rfl⟩
section
variable (m:i8) (i:Int) (id:Int)
def qrf:Int:=e9 (dM (aj m)) i id (-1)
def qiy:i8:=(U0 m i id).fst
def BA:List Int:=(qiy m i id).eA
def M6:List Int:=(qiy m i id).aa
def Dl:Nat:=(M6 m i id).length
def GK:List (List Int):=(qiy m i id).a6
def OY:List Int:=(qiy m i id).lT
def Ic:Int:=(U0 m i id).snd
def HF:=qrf m i id !=0
end
theorem zy4 (f:dk m):KN 95 [vM m,d9 i,d9 id] (.av [vM (bc m i id (-1) id).1,d9 (bc m i id (-1) id).2]):=by
 refine Kn (sF 26 (λ_=>false) λ_=>none) func95 (KN 158 [AV.mc zm (aj m),d9 i,d9 id,d9 (-1:Int)] (d9 (qrf m i id))/\Z (HF m i id) (((BA m i id).length=0/\Dl m i id=0/\(GK m i id).length=0/\(OY m i id).length=0)/\qrf m i id=Ic m i id) ((KF (101:Nat) [AV.mc zm (aj m)] (AV.mc zm (AV.agg [AV.own (0:Nat) (dR dI (a8 m.eA)).length,AV.own (1:Nat) (dR dI (a8 m.aa)).length,AV.own (2:Nat) (dR (dR dI) (aE m.a6)).length,AV.own (3:Nat) (dR dI (a8 m.lT)).length])) [ar.row (3:TypeId) ey (dR dI (a8 m.eA)).length λi=>d9 ((dR dI (a8 m.eA)).getD i (0:Int)),ar.row (3:TypeId) ey (dR dI (a8 m.aa)).length λi=>oq m i,ar.row (29:TypeId) ey (dR (dR dI) (aE m.a6)).length λi=>a8 ((dR (dR dI) (aE m.a6)).getD i []),ar.row (3:TypeId) ey (dR dI (a8 m.lT)).length λi=>d9 ((dR dI (a8 m.lT)).getD i (0:Int))])/\af i (dR dI (a8 m.aa)).length/\i.toNat<(dR dI (a8 m.aa)).length/\(dR dI (a8 m.eA)).length<=(dR dI (a8 m.eA)).length/\(dR dI (a8 m.aa)).length<=(dR dI (a8 m.aa)).length/\(dR (dR dI) (aE m.a6)).length<=(dR (dR dI) (aE m.a6)).length/\(dR dI (a8 m.lT)).length<=(dR dI (a8 m.lT)).length/\(LS (a8 (dR dI (a8 m.eA))) (a8 (BA m i id))/\((dR dI (a8 m.aa)).length=Dl m i id/\∀ (e:Nat),e<(dR dI (a8 m.aa)).length->(if e=i.toNat then aq (aq (d9 id))else oq m e)=d9 ((M6 m i id).getD e 0))/\LS (aE (dR (dR dI) (aE m.a6))) (aE (GK m i id))/\LS (a8 (dR dI (a8 m.lT))) (a8 (OY m i id)))/\0=Ic m i id)) ?_;try delta Z qrf U0 qiy BA M6 Dl GK OY Ic HF oq
 simp only[SZ];refine⟨zlx m _ _ _ f,λh=>?_,λh=>⟨QP m f,(kM (zhq h).1).2,by have :=(kM (zhq h).1).2;omega, ?_⟩⟩;rw[zr5 h];exact⟨df,rfl⟩;rw[zy2 h];exact⟨⟨⟨rfl,λ_ _=>rfl⟩,⟨ap,λj k=>setRow _ _ _ j k⟩,⟨rfl,λ_ _=>rfl⟩,rfl,λ_ _=>rfl⟩,rfl⟩
section
variable (m:i8) (i:Int) (id:Int)
def qiz:i8:=(VM m i id).fst
def O7:List Int:=(qiz m i id).eA
def D2:List Int:=(qiz m i id).aa
def FH:Nat:=(D2 m i id).length
def AE:List (List Int):=(qiz m i id).a6
def zP:List Int:=(qiz m i id).lT
def Lj:Int:=(VM m i id).snd
def Hq:=e9 (dM (aj m)) i id id !=0
end
theorem zy5 (f:dk m):KN 96 [vM m,d9 i,d9 id] (.av [vM (bc m i id id (-1)).1,d9 (bc m i id id (-1)).2]):=by
 refine Kn (sF 26 (λ_=>false) λ_=>none) func96 (KN 158 [AV.mc zm (aj m),d9 i,d9 id,d9 id] (d9 (e9 (dM (aj m)) i id id))/\Z (Hq m i id) (((O7 m i id).length=0/\FH m i id=0/\(AE m i id).length=0/\(zP m i id).length=0)/\e9 (dM (aj m)) i id id=Lj m i id) ((KF (101:Nat) [AV.mc zm (aj m)] (AV.mc zm (AV.agg [AV.own (0:Nat) (dR dI (a8 m.eA)).length,AV.own (1:Nat) (dR dI (a8 m.aa)).length,AV.own (2:Nat) (dR (dR dI) (aE m.a6)).length,AV.own (3:Nat) (dR dI (a8 m.lT)).length])) [ar.row (3:TypeId) ey (dR dI (a8 m.eA)).length λi=>d9 ((dR dI (a8 m.eA)).getD i (0:Int)),ar.row (3:TypeId) ey (dR dI (a8 m.aa)).length λi=>oq m i,ar.row (29:TypeId) ey (dR (dR dI) (aE m.a6)).length λi=>a8 ((dR (dR dI) (aE m.a6)).getD i []),ar.row (3:TypeId) ey (dR dI (a8 m.lT)).length λi=>d9 ((dR dI (a8 m.lT)).getD i (0:Int))])/\af i (dR dI (a8 m.aa)).length/\i.toNat<(dR dI (a8 m.aa)).length/\(dR dI (a8 m.eA)).length<=(dR dI (a8 m.eA)).length/\(dR dI (a8 m.aa)).length<=(dR dI (a8 m.aa)).length/\(dR (dR dI) (aE m.a6)).length<=(dR (dR dI) (aE m.a6)).length/\(dR dI (a8 m.lT)).length<=(dR dI (a8 m.lT)).length/\(LS (a8 (dR dI (a8 m.eA))) (a8 (O7 m i id))/\((dR dI (a8 m.aa)).length=FH m i id/\∀ (e:Nat),e<(dR dI (a8 m.aa)).length->(if e=i.toNat then aq (d9 (-1))else oq m e)=d9 ((D2 m i id).getD e 0))/\LS (aE (dR (dR dI) (aE m.a6))) (aE (AE m i id))/\LS (a8 (dR dI (a8 m.lT))) (a8 (zP m i id)))/\0=Lj m i id)) ?_;try delta Z VM qiz O7 D2 FH AE zP Lj Hq oq
 simp only[SZ];refine⟨zlx m _ _ _ f,λh=>?_,λh=>⟨QP m f,(kM (zhq h).1).2,by have :=(kM (zhq h).1).2;omega, ?_⟩⟩;rw[zr5 h];exact⟨df,rfl⟩;rw[zy2 h];exact⟨⟨⟨rfl,λ_ _=>rfl⟩,⟨ap,λj k=>setRow _ _ _ j k⟩,⟨rfl,λ_ _=>rfl⟩,rfl,λ_ _=>rfl⟩,rfl⟩
def abx:AV:= .mc zm (.agg [.own 0 m.eA.length, .own 1 m.aa.length, .own 2 m.a6.length,a8 m.lT])
def zr6:List ar:=[bw m.eA,bw m.aa,tM m.a6]
def aco:FuncId ->List AV ->Option AV
 |101,[.mc _ m]=>some (abx (dM m))
 |160,[.mc _ m, .int _ c, .int _ n]=>some (vM (ud (dM m) c.toNat n.toNat))
 |98,[.mc _ m, .int _ id]=>some (.av [vM (dD (dM m) id).1,d9 (dD (dM m) id).2])
 |159,[.seq _ n f, .int _ v]=>some (a8 (cU (zw n f) v))
 |215,[.seq _ n f, .seq _ m g]=>some (a8 (bx (zw n f++zw m g)))
 |f,l=>aaf f l
def aer:FuncId ->List AV ->Option (List ar)
 |101,[.mc _ m]=>some (zr6 (dM m))
 |f,l=>frI f l
noncomputable def ZT (n:Nat):ls:={jE n with fresh:=aer}
noncomputable def tT (n:Nat) (inv:Nat ->Option lm):bm:={C:=ZT n,CC:=mp prog GG,b9:=λ_ _=>aco,inv:=inv}
theorem zlz:∀ (q lT:List Int),jC lT ->q.foldl c9 lT=bx (lT++q)
 | [],lT,h=>by rw[yb,zmy h];rfl
 |x::q,lT,h=>by
  show q.foldl c9 (c9 lT x)=_
  rw[zlz q (c9 lT x) (ri _)]
  refine xL (ri _) (ri _) λy=>?_
  rw[z59,z59];unfold c9
  simp[z59]
  constructor
  rintro((h |h) |h)
  exact .inl h
  exact .inr (.inl h)
  exact .inr (.inr h)
  rintro(h |h |h)
  exact .inl (.inl h)
  exact .inl (.inr h)
  exact .inr h
theorem zub (q:List Int) (k:Nat):(AV.seq .ey (q.length - k) λi=>d9 (q.getD (k+i) 0))=a8 (q.drop k):=by
 unfold a8;rw[wn];congr 1;funext i;grind
theorem zy9 (h:dk m):KF 101 [vM m] (abx m) (zr6 m):=by
 refine nc (sF 34 (λd=>Nat.beq d 7 || (Nat.beq d 10 || Nat.beq d 13)) (zeh m)) func101 ((KF (161:Nat) [a8 m.eA] (AV.own (0:Nat) m.eA.length) [ar.row (3:TypeId) ey (ql m) λi=>qu m i])/\(KF (161:Nat) [a8 m.aa] (AV.own (0:Nat) m.aa.length) [ar.row (3:TypeId) ey (qm m) λi=>qv m i])/\(KF (161:Nat) [a8 m.lT] (AV.own (0:Nat) m.lT.length) [ar.row (3:TypeId) ey (qk m) λi=>qo m i])/\(∃ (i:Nat),i<=List.length (i8.a6 m)/\(0:Int)=(↑i:Int)/\LT (aj m)/\(bt/\bt/\bt/\bt)/\(RR (List.length (i8.eA m))/\RR (List.length (i8.aa m))/\oi m i/\RR (List.length (i8.lT m)))/\(ql m=List.length (i8.eA m)/\∀ (i:Nat),i<ql m->qu m i=AV.int j6 (List.getD (i8.eA m) i (0:Int)))/\(qm m=List.length (i8.aa m)/\∀ (i:Nat),i<qm m->qv m i=AV.int j6 (List.getD (i8.aa m) i (0:Int)))/\oi m i/\qk m=List.length (i8.lT m)/\∀ (i:Nat),i<qk m->qo m i=AV.int j6 (List.getD (i8.lT m) i (0:Int)))/\∀ i:Nat,i<=m.a6.length->aH ↑m.a6.length/\Z (qj m i) (af (↑i) m.a6.length/\KN 161 [a8 (m.a6.getD (↑i:Int).toNat [])] (mE m i)/\1*ey.size<=16777216/\(RR (List.take i m.a6).length/\↑(lU m i)*↑(24:Nat)<=(140737488355328:Int)/\lU m i<=9223372036854775807)/\1<=1/\aM j6 (q9 i)/\(∃ j,j<=m.a6.length/\qi m j<qi m i/\q9 i=↑j/\LT (aj m)/\(LT (a8 [])/\LT (a8 [])/\LT (aE [])/\LT (a8 []))/\(RR m.eA.length/\RR m.aa.length/\oH m i j/\RR m.lT.length)/\lp m/\lg m/\(oH m i j/\∀ (f:Nat),f<lU m i->(if f<(List.take i m.a6).length then oA m i f else((List.replicate 1 AV.ax).set 0 (aq (mE m i))).getD (f - (List.take i m.a6).length) AV.any)=oA m j f)/\RR m.lT.length/\∀ (i:Nat),i<m.lT.length->RR (AV.int j6 (m.lT.getD i 0)))) (m.lT.length<=m.lT.length/\(RR m.eA.length/\RR m.aa.length/\uP m i/\LT (a8 m.lT))/\lp m/\lg m/\uP m i/\∀ (f:Nat),f<(List.take i m.a6).length->oA m i f=a8 (m.a6.getD f []))) ?_;try delta Z aH bt sQ ql qu tZ qm qv qB qk qo oi mE lU q9 qi oH lp lg oA qj uP
 simp only[SZ];simp only[oR];have s3:=h.a6;refine⟨nF _ h.eA,nF _ h.aa,nF _ h.lT,⟨0,O,rfl,ap⟩,λi hi=>⟨O,λhlt=>?_,λhge=>?_⟩⟩;have k:(m.a6.take i).length=i:=by rw[xr];omega
 have e:m.a6.take (i+1)=m.a6.take i++[m.a6.getD i []]:=by
  simp_all
 refine⟨hlt,zlu _ (h.q i),am,⟨O,O⟩,f9,i+1,O,O,O, ?_⟩;rw[e];exact⟨ap,ap,λj hj=>nS a8 _ [] _ _ j hj⟩;rw[xu O];exact⟨rfl,rfl,λ_ _=>rfl⟩
section
variable (m:i8) (c:Int) (n:Int)
def Ld:=n<=oK m c
def Oz:Nat:=(n - 0).toNat
def Dv:Nat->AV:=λi=>d9 ((nk m c).getD (Int.toNat 0+i) 0)
def L8:=a8 (bx ((zw (dR dI (a8 m.lT)).length λi=>d9 ((dR dI (a8 m.lT)).getD i 0))++zw (Oz n) (Dv m c)))
def Le:Nat:=(oK m c - n).toNat
def Ck:Nat->AV:=λi=>d9 ((nk m c).getD (n.toNat+i) 0)
def HP:=a8 (zw (Le m c n) (Ck m c n))
def HK:List (List Int):=m.a6.set c.toNat (List.drop n.toNat (m.a6.getD c.toNat []))
end
theorem zm0 (n:Int) (k:dk m) (u:ca m) (h:0<=c/\c<m.a6.length) (f:0<=n/\n<=(m.a6.getD c.toNat []).length):KN 160 [vM m,d9 c,d9 n] (vM (ud m c.toNat n.toNat)):=by
 refine Kn (tT 34 λ_=>none) func160 ((KF (101:Nat) [AV.mc zm (aj m)] (AV.mc zm (AV.agg [AV.own (0:Nat) (dR dI (a8 m.eA)).length,AV.own (1:Nat) (dR dI (a8 m.aa)).length,AV.own (2:Nat) (dR (dR dI) (aE m.a6)).length,a8 (dR dI (a8 m.lT))])) [ar.row (3:TypeId) ey (dR dI (a8 m.eA)).length λi=>d9 ((dR dI (a8 m.eA)).getD i (0:Int)),ar.row (3:TypeId) ey (dR dI (a8 m.aa)).length λi=>d9 ((dR dI (a8 m.aa)).getD i (0:Int)),ar.row (29:TypeId) ey (dR (dR dI) (aE m.a6)).length λi=>B6 m i])/\uT m c/\sM m c/\((0:Int)<=(0:Int)/\0<=n/\Ld m c n)/\KN 215 [a8 (dR dI (a8 m.lT)),AV.seq ey (Oz n) (Dv m c)] (L8 m c n)/\uT m c/\sM m c/\(0<=n/\Ld m c n/\oK m c<=oK m c)/\KN 161 [AV.seq ey (Le m c n) (Ck m c n)] (HP m c n)/\uT m c/\sM m c/\(dR dI (a8 m.eA)).length<=(dR dI (a8 m.eA)).length/\(dR dI (a8 m.aa)).length<=(dR dI (a8 m.aa)).length/\(dR (dR dI) (aE m.a6)).length<=(dR (dR dI) (aE m.a6)).length/\LS (a8 (dR dI (a8 m.eA))) (a8 m.eA)/\LS (a8 (dR dI (a8 m.aa))) (a8 m.aa)/\((dR (dR dI) (aE m.a6)).length=(HK m c n).length/\∀ i:Nat,i<(dR (dR dI) (aE m.a6)).length->(if i=c.toNat then aq (HP m c n)else B6 m i)=a8 ((HK m c n).getD i []))/\LS (L8 m c n) (a8 (List.foldl c9 m.lT (List.take n.toNat (m.a6.getD c.toNat []))))) ?_;try delta B6 uT sM nk oK Ld Oz Dv L8 Le Ck HP HK
 simp only[SZ];have x:=(z47.1 u).mO;have H:=TJ m.a6 c.toNat;have F:(kw m).length=m.lT.length+m.a6.flatten.length:=by unfold kw;rw[xl]
 have E:=k.all;have r:(((m.a6.getD c.toNat []).length:Int) - n).toNat=(m.a6.getD c.toNat []).length - n.toNat:=O;have y:zw n.toNat (λi=>d9 ((m.a6.getD c.toNat []).getD i 0))=(m.a6.getD c.toNat []).take n.toNat:=za9 O;simp only[oR];rw[y,YZ r,r,zub];refine⟨zy9 m k,h,O,⟨O,f.1,f.2⟩, ?_,h,O,f,zlu _ (by rw[wn];omega),h,O,⟨ap,λj s=>?_⟩, ?_⟩;refine(ai2 m.lT ((m.a6.getD c.toNat []).take n.toNat) O (by rw[xr];omega)).weaken (args':=[a8 m.lT, .seq .ey n.toNat λi=> d9 ((m.a6.getD c.toNat []).getD i 0)]) rfl ⟨⟨rfl,rfl,λ_ _=>rfl⟩,⟨rfl,by rw[xr];omega,λj s=>?_⟩,trivial⟩;show d9 _=d9 _;rw[zd1 s];by_cases e:j=c.toNat;subst e;rw[x9 rfl,x7 (l:=m.a6.set _ _),List.getElem?_set_self O];rfl;rw[x8 e,x7 (l:=m.a6.set _ _),k9 O,<- x7];rw[zlz _ _ x];exact⟨rfl,λ_ _=>rfl⟩
section
variable (m:i8) (id:Int)
def HA:=a8 (cU (zw (dR dI (a8 m.lT)).length λi=>d9 ((dR dI (a8 m.lT)).getD i 0)) id)
end
theorem aiv (hm:dk m):KN 98 [vM m,d9 id] (.av [vM (dD m id).1,d9 (dD m id).2]):=by
 refine Kn (tT 25 λ_=>none) func98 (KN 148 [AV.mc zm (aj m)] (AV.bool (ca (dM (aj m))))/\Z (!ca (dM (aj m))) (qc9 m id/\1=(dD m id).snd) (KN 70 [a8 m.lT,d9 id] (AV.bool (xS m id))/\Z (U2 m id) (qc9 m id/\30=(dD m id).snd) ((KF (101:Nat) [AV.mc zm (aj m)] (AV.mc zm (AV.agg [AV.own (0:Nat) (dR dI (a8 m.eA)).length,AV.own (1:Nat) (dR dI (a8 m.aa)).length,AV.own (2:Nat) (dR (dR dI) (aE m.a6)).length,a8 (dR dI (a8 m.lT))])) [ar.row (3:TypeId) ey (dR dI (a8 m.eA)).length λi=>d9 ((dR dI (a8 m.eA)).getD i (0:Int)),ar.row (3:TypeId) ey (dR dI (a8 m.aa)).length λi=>d9 ((dR dI (a8 m.aa)).getD i (0:Int)),ar.row (29:TypeId) ey (dR (dR dI) (aE m.a6)).length λi=>a8 ((dR (dR dI) (aE m.a6)).getD i [])])/\KN 159 [a8 (dR dI (a8 m.lT)),d9 id] (HA m id)/\(dR dI (a8 m.eA)).length<=(dR dI (a8 m.eA)).length/\(dR dI (a8 m.aa)).length<=(dR dI (a8 m.aa)).length/\(dR (dR dI) (aE m.a6)).length<=(dR (dR dI) (aE m.a6)).length/\(LS (a8 (dR dI (a8 m.eA))) (a8 (dD m id).fst.eA)/\LS (a8 (dR dI (a8 m.aa))) (a8 (dD m id).fst.aa)/\LS (aE (dR (dR dI) (aE m.a6))) (aE (dD m id).fst.a6)/\LS (HA m id) (a8 (dD m id).fst.lT))/\0=(dD m id).snd))) ?_;try delta Z qc9 xS U2 HA
 simp only[SZ];simp only[oR];refine⟨lu m hm.wo,λh=>?_,λh=>⟨Ts _ _ (by have :=hm.lT;omega),λh2=>?_,λh2=>⟨zy9 m hm,ztd _ _ hm.lT, ?_⟩⟩⟩;have e:dD m id=(du,1):=by unfold dD;rw[x9 h]
 rw[e];exact⟨df,rfl⟩;have e:dD m id=(du,30):=by unfold dD;rw[x8 (by simp[h]),x9 h2]
 rw[e];exact⟨df,rfl⟩;have e:dD m id=({m with lT:=cU m.lT id},0):=by unfold dD;rw[x8 (by simp[h]),x8 (by simp[h2])]
 grind
theorem zr8 {m:i8} {c k:Int} (h:ca m=false):zi m c k=(du,0,1):=by unfold zi;rw[zhp h,x9 am]
theorem zr9 {m:i8} {c k:Int} (h:ca m) (h2:c<0∨(m.a6.length:Int)<=c):zi m c k=(du,0,11):=by grind[zi,po]
theorem zya {m:i8} {c k:Int} (h:ca m) (h2:¬(c<0∨(m.a6.length:Int)<=c)):zi m c k=(ud m c.toNat (min k ((m.a6.getD c.toNat []).length:Int)).toNat,min k ((m.a6.getD c.toNat []).length:Int),0):=by unfold zi;rw[po h,x8 h2,x8 am]
section
variable (m:i8) (c:Int)
def qj0:i8:=(zi m c 1).fst
def QA:List Int:=(qj0 m c).eA
def Ik:List Int:=(qj0 m c).aa
def Ja:List (List Int):=(qj0 m c).a6
def yX:List Int:=(qj0 m c).lT
def LC:=(QA m c).length=0/\(Ik m c).length=0/\(Ja m c).length=0/\(yX m c).length=0
def Bz:Int:=(VB m c).fst
def Ko:=0=Bz m c
def qrg:Int:=(VB m c).snd
def qj1:=decide (c<0)
def yD:=(!qj1 c)=true
def lq:=yD c->yD c
def uo:=qj1 c||decide (↑m.a6.length<=c)
def qrh:Int:=if ↑(m.a6.getD c.toNat []).length<(1:Int)then nR m c else(1:Int)
def JT:Nat:=(qrh m c).toNat
def A9:=aE ((dR (dR dI) (aE m.a6)).set c.toNat (List.drop (JT m c) (nk m c)))
def Rw:=a8 (List.foldl c9 (dR dI (a8 m.lT)) (List.take (JT m c) (nk m c)))
end
theorem akp (e:dk m):KN 99 [vM m,d9 c] (.av [vM (zi m c 1).1,d9 (zi m c 1).2.1,d9 (zi m c 1).2.2]):=by
 refine Kn (tT 34 λ_=>none) func99 (KN 148 [AV.mc zm (aj m)] (AV.bool (ca (dM (aj m))))/\Z (!ca (dM (aj m))) (LC m c/\Ko m c/\1=qrg m c) (lq c/\lq c/\(yD c->aH ↑m.a6.length)/\lq c/\lq c/\lq c/\Z (uo m c) (LC m c/\Ko m c/\11=qrg m c) (af c m.a6.length/\nR m c<=9223372036854775807/\KN 160 [AV.mc zm (aj m),d9 c,d9 (qrh m c)] (AV.mc zm (AV.agg [a8 (dR dI (a8 m.eA)),a8 (dR dI (a8 m.aa)),A9 m c,Rw m c]))/\(LS (a8 (dR dI (a8 m.eA))) (a8 (QA m c))/\LS (a8 (dR dI (a8 m.aa))) (a8 (Ik m c))/\LS (A9 m c) (aE (Ja m c))/\LS (Rw m c) (a8 (yX m c)))/\qrh m c=Bz m c/\0=qrg m c))) ?_;try delta Z aH qj0 QA Ik Ja yX LC VB Bz Ko qrg qj1 yD lq uo nR qrh JT nk A9 Rw
 simp only[SZ];have i:=e.a6;have s2:=e.q c.toNat;have f:(if((m.a6.getD c.toNat []).length:Int)<1 then((m.a6.getD c.toNat []).length:Int)else 1)=min 1 ((m.a6.getD c.toNat []).length:Int):=by split<;>omega
 rw[f];refine⟨lu m e.wo,λh=>?_,λh=>⟨λ_=>O,λh2=>?_,λh2=>⟨⟨O,O⟩,O,zm0 m _ _ e h O O, ?_⟩⟩⟩;rw[zr8 h];exact⟨df,rfl,rfl⟩;rw[zr9 h h2];exact⟨df,rfl,rfl⟩;rw[zya h O];exact⟨⟨⟨rfl,λ_ _=>rfl⟩,⟨rfl,λ_ _=>rfl⟩,⟨rfl,λ_ _=>rfl⟩,rfl,λ_ _=>rfl⟩,rfl,rfl⟩
theorem zra:∀ (l:List (List Int)) (a:Int),a<=l.foldl (λa q=>max a (q.length:Int)) a/\∀ q∈l,(q.length:Int)<=l.foldl (λa q=>max a (q.length:Int)) a
 | [],a=>⟨yr _,λq h=>by cases h⟩
 |x::l,a=>by
  have e:=zra l (max a x.length)
  rw[List.foldl_cons]
  refine⟨O,λq h=>?_⟩
  rcases xv.1 h with rfl |h
  omega
  exact e.2 q h
theorem ady (l:List (List Int)) (i:Nat) (e:i<l.length):((l.getD i []).length:Int)<=z1z l:=(zra l 0).2 _ (ztn e)
section
variable (m:i8) (c:Int)
def Nz:=(zi m c (z1z m.a6)).fst.eA.length=0/\(zi m c (z1z m.a6)).fst.aa.length=0/\(zi m c (z1z m.a6)).fst.a6.length=0/\(zi m c (z1z m.a6)).fst.lT.length=0
def QZ:Int:=(zi m c (z1z m.a6)).snd.fst
def Ek:=0=QZ m c
def qri:Int:=(zi m c (z1z m.a6)).snd.snd
def LR:Nat:=(nR m c).toNat
def Ob:=aE ((dR (dR dI) (aE m.a6)).set c.toNat (List.drop (LR m c) (nk m c)))
def Iw:=a8 (List.foldl c9 (dR dI (a8 m.lT)) (List.take (LR m c) (nk m c)))
end
theorem al7 (e:dk m):KN 100 [vM m,d9 c] (.av [vM (zi m c (z1z m.a6)).1,d9 (zi m c (z1z m.a6)).2.1,d9 (zi m c (z1z m.a6)).2.2]):=by
 refine Kn (tT 33 λ_=>none) func100 (KN 148 [AV.mc zm (aj m)] (AV.bool (ca (dM (aj m))))/\Z (!ca (dM (aj m))) (Nz m c/\Ek m c/\1=qri m c) (lq c/\lq c/\(yD c->aH ↑m.a6.length)/\lq c/\lq c/\lq c/\Z (uo m c) (Nz m c/\Ek m c/\11=qri m c) (af c m.a6.length/\nR m c<=9223372036854775807/\KN 160 [AV.mc zm (aj m),d9 c,d9 (nR m c)] (AV.mc zm (AV.agg [a8 (dR dI (a8 m.eA)),a8 (dR dI (a8 m.aa)),Ob m c,Iw m c]))/\(LS (a8 (dR dI (a8 m.eA))) (a8 (zi m c (z1z m.a6)).fst.eA)/\LS (a8 (dR dI (a8 m.aa))) (a8 (zi m c (z1z m.a6)).fst.aa)/\LS (Ob m c) (aE (zi m c (z1z m.a6)).fst.a6)/\LS (Iw m c) (a8 (zi m c (z1z m.a6)).fst.lT))/\nR m c=QZ m c/\0=qri m c))) ?_;try delta Z aH Nz QZ Ek qri qj1 yD lq uo nR LR nk Ob Iw
 simp only[SZ];have i:=e.a6;have s2:=e.q c.toNat;refine⟨lu m e.wo,λh=>?_,λh=>⟨λ_=>O,λh2=>?_,λh2=>⟨⟨O,O⟩,O,zm0 m _ _ e h O O, ?_⟩⟩⟩;rw[zr8 h];exact⟨df,rfl,rfl⟩;rw[zr9 h h2];exact⟨df,rfl,rfl⟩;have f:min (z1z m.a6) ((m.a6.getD c.toNat []).length:Int)=((m.a6.getD c.toNat []).length:Int):=by
  have :=ady m.a6 c.toNat O;omega
 rw[zya h O,f];exact⟨⟨⟨rfl,λ_ _=>rfl⟩,⟨rfl,λ_ _=>rfl⟩,⟨rfl,λ_ _=>rfl⟩,rfl,λ_ _=>rfl⟩,rfl,rfl⟩
def zud:AV:= .bD c7 0 λi=>aA (([]:List bR).getD i az)
def tQ:AV:= .mc aI (.agg [aF s.ab,aj s.l5,zud])
def abk:AV:= .mc aI (.agg [.own 0 s.ab.length,aj s.l5,zud])
def adr:ar:= .cell 35 aI (.agg [aF s.ab,aj s.l5,zud])
def al0 (b:Int) (s:ja) (id fn arg:Int) (k:Nat):Option lm:=match Nat.beq k 8 with
 |true=>iw s.ab.length (λi=>⟨[(3,d9 id),(8, .ptr 8 []),(12, .ptr 12 []),(16, .ptr 16 []),(18,d9 i)],[(8,adr s),(12,fb mt),(16, .cell 51 zk (ak (ba p b id fn arg).1))]⟩) λi=>(aS s.ab id<0/\(ba p b id fn arg).2=0)/\∀ j,j<i ->(s.ab.getD j ao).id<id
 |false=>none
theorem aif:∀ (i:Nat),i<=l.length ->(∀ j,j<i ->(l.getD j ao).id<id) ->(i<l.length ->¬ (l.getD i ao).id<id) ->gK l id=i:=by
 unfold gK;induction l with
 |nil=>intro i e _ _;have :i=0:=by simpa using e
       simp_all
 |cons t l k=>
  intro i e f m;cases i with
  |zero=>
   simp_all
  |succ i=>
   have r:t.id<id:=f 0 O;rw[List.takeWhile_cons_of_pos (by simpa using r),yp,k i (by simpa using e) (λj s=>f (j+1) O) λh=>m (by simpa using h)]
theorem uj:gK l id<=l.length:=(List.takeWhile_sublist _).length_le
theorem z9q (e:k<=l.length):(gB l t k).length=l.length+1:=by grind[gB]
theorem z9r (e:k<=l.length) (j:Nat):(gB l t k).getD j ao=if j<k then l.getD j ao else if j=k then t else l.getD (j - 1) ao:=by
 unfold gB;have hl:(l.take k).length=k:=dl;simp;split;rw[ya O,y5 O];rw[y6 O,hl];split;grind;obtain⟨d,rfl⟩:∃ d,j=k+(d+1):=⟨j - k - 1,O⟩;grind
theorem zue (i j:Nat) (z:AV) (k:i<=l.length):(if i+1<=j/\j<i+1+(l.length - i)then ak (l.getD (i+(j - (i+1))) ao)else if j=i then ak t else if j<i then ak (l.getD j ao)else z)=if j<l.length+1 then ak ((gB l t i).getD j ao)else z:=by
 rw[z9r _ _ _ k];by_cases e:j<i;rw[x8 O,x8 O,x9 e,x9 O,x9 e];by_cases f:j=i;rw[x8 O,x9 f,x9 O,x8 e,x9 f];by_cases h:j<l.length+1;rw[x9 O,x9 h,x8 e,x8 f,show i+(j - (i+1))=j - 1 from O];rw[x8 O,x8 f,x8 e,x8 h]
section
variable (s:ja) (id:Int)
def qrj:=decide (0<=aS (dR dT (aF s.ab)) id)
end
section
variable (p:ai) (b:Int) (s:ja) (id:Int) (fn:Int) (arg:Int)
def aAk:Nat:=(eH p b s id fn arg).fst.ab.length
def O8:=aAk p b s id fn arg=0
def Di:=((O8 p b s id fn arg/\((eH p b s id fn arg).fst.l5.eA.length=0/\(eH p b s id fn arg).fst.l5.aa.length=0/\(eH p b s id fn arg).fst.l5.a6.length=0/\(eH p b s id fn arg).fst.l5.lT.length=0)/\RR 0)/\30=(eH p b s id fn arg).snd)/\O8 p b s id fn arg
def HV:=(ba (dP (ah p)) b id fn arg).snd !=0
variable (x6:Nat)
def qrk:=x6<=s.ab.length/\(aS s.ab id<0/\(ba p b id fn arg).snd=0)/\∀ j:Nat,j<x6->(s.ab.getD j ao).id<id
def KM:=RR (AV.bD c7 0 λi=>aA ([].getD i az))
def RX:=LT (aF s.ab)/\LT (aj s.l5)/\KM
variable (x1:Nat)
def qrl:=qc s x1=true
def ta:=qrl s x1->qrl s x1
variable (x2:Nat)
def Av:=qc s x2&&decide ((s.ab.getD (↑x2:Int).toNat ao).id<id)
def vy:Int:=↑s.ab.length+1
def Lr:=(↑x1:Int)<=(↑s.ab.length:Int)
def tt:Nat:=(vy s).toNat
def V6:Int:=↑(tt s)
variable (x0:Nat)
def Jo:Nat:=(q9 x0).toNat
def DQ:Nat:=(V6 s - q9 x1).toNat
def MT:=tt s=aAk p b s id fn arg
end
theorem ah5 (b:Int) (s:ja) (id fn arg:Int) (m:bI p) (hs:cw s) (f:id<=9223372036854775807):KF 198 [vP p,d9 b,tQ s,d9 id,d9 fn,d9 arg] (.av [abk (eH p b s id fn arg).1,d9 (eH p b s id fn arg).2]) [eO (eH p b s id fn arg).1.ab]:=by
 refine nc (nE 85 (al0 p b s id fn arg)) func198 (KN 120 [aF s.ab,d9 id] (AV.av [d9 (max (aS (dR dT (aF s.ab)) id) (0:Int)),AV.bool (qrj s id)])/\Z (qrj s id) (Di p b s id fn arg) (KN 63 [AV.mc z7 (ah p),d9 b,d9 id,d9 fn,d9 arg] (AV.av [AV.mc zk (ak (ba (dP (ah p)) b id fn arg).fst),d9 (ba (dP (ah p)) b id fn arg).snd])/\Z (HV p b id fn arg) (Di p b s id fn arg) ((∃ (i:Nat),qrk p b s id fn arg i/\(RR id/\(0:Int)=(↑i:Int))/\RX s/\(bt/\(bt/\bt/\bt/\bt)/\bt)/\LS (ak (Prod.fst (ba (dP (ah p)) b id fn arg))) (ak (Prod.fst (ba p b id fn arg))))/\∀ i:Nat,qrk p b s id fn arg i->mW s/\ta s i/\ta s i/\ta s i/\(qrl s i->af (↑i) s.ab.length)/\ta s i/\ta s i/\ta s i/\ta s i/\ta s i/\Z (Av s id i) (qa i/\(∃ j,qrk p b s id fn arg j/\s.ab.length - j<s.ab.length - i/\(RR id/\q9 i=↑j)/\RX s/\(LT (aF [])/\(LT (a8 [])/\LT (a8 [])/\LT (aE [])/\LT (a8 []))/\LT (aY []))/\LT (ak (ba p b id fn arg).fst))) (mW s/\aM j6 (vy s)/\(0<=vy s/\vy s<=vy s/\↑(152:Nat)*vy s<=(140737488355328:Int)/\vy s<=9223372036854775807)/\((0:Int)<=(0:Int)/\(0:Int)<=↑i/\Lr s i)/\(tt s<=tt s/\V6 s<=9223372036854775807)/\af (↑i) (tt s)/\(↑i:Int).toNat<tt s/\qa i/\(0<=q9 i/\q9 i<=V6 s/\V6 s<=V6 s)/\((0:Int)<=↑i/\Lr s i/\(↑s.ab.length:Int)<=(↑s.ab.length:Int))/\(Jo i+DQ s i<=tt s/\aH ↑(DQ s i))/\((MT p b s id fn arg/\LS (aj s.l5) (aj (eH p b s id fn arg).fst.l5)/\KM)/\0=(eH p b s id fn arg).snd)/\MT p b s id fn arg/\∀ (i_1:Nat),i_1<tt s->(if((↑i:Int)+1).toNat<=i_1/\i_1<((↑i:Int)+1).toNat+min ((↑s.ab.length:Int) - (↑i:Int)).toNat ((↑((↑s.ab.length:Int)+1).toNat:Int) - ((↑i:Int)+1)).toNat then ak (s.ab.getD ((↑i:Int).toNat+(i_1 - Jo i)) ao)else if i_1=(↑i:Int).toNat then ak (ba p b id fn arg).fst else if i_1<min ((↑i:Int) - 0).toNat ((↑s.ab.length:Int)+1).toNat then ak (s.ab.getD (Int.toNat 0+i_1) ao)else AV.agg [d9 0,d9 0,d9 0,AV.arr 8 λx=>d9 0,d9 0,d9 0,d9 0,d9 0,d9 0,AV.ax])=ak ((eH p b s id fn arg).fst.ab.getD i_1 ao))))) ?_;try delta Z aH bt qrj aAk O8 Di HV qrk KM RX mW qc qrl ta q9 qa Av vy Lr tt V6 Jo DQ MT
 simp only[SZ];simp only[z9i hs.r8];have h1:=hs.ab;refine⟨Xi _ _ h1 hs.r8,λh=>?_,λh=>⟨abv p b id fn arg m f,λh2=>?_,λh2=>⟨⟨0,⟨O,⟨O,h2⟩,λj hj=>O⟩,rfl⟩,λi hi=>⟨O,λhc=>⟨f9,i+1,⟨O,⟨O,h2⟩,λj hj=>?_⟩,O,O⟩,λhc=>?_⟩⟩⟩⟩;have e:eH p b s id fn arg=(mt,30):=by unfold eH;rw[x9 h]
 rw[e];exact⟨⟨⟨rfl,df⟩,rfl⟩,rfl⟩;have e:eH p b s id fn arg=(mt,30):=by unfold eH;rw[x8 h,x9 h2]
 rw[e];exact⟨⟨⟨rfl,df⟩,rfl⟩,rfl⟩;by_cases e:j=i;subst e;exact hc.2;exact hi.2.2 j O;have e:eH p b s id fn arg=({s with ab:=gB s.ab (ba p b id fn arg).1 (gK s.ab id)},0):=by unfold eH;rw[x8 h,x8 (by simp[h2])]
 have hat:gK s.ab id=i:=aif _ _ _ hi.1 hi.2.2 λhlt=>O;have hl:=z9q s.ab (ba p b id fn arg).1 i hi.1;have n1:((s.ab.length:Int)+1).toNat=s.ab.length+1:=O;have n2:((i:Int)+1).toNat=i+1:=O;have n3:min ((s.ab.length:Int) - (i:Int)).toNat (((s.ab.length+1:Nat):Int) - ((i:Int)+1)).toNat=s.ab.length - i:=O;have k:min i (s.ab.length+1)=i:=O;rw[e,hat];simp only[n1,n2,n3,k];refine⟨O,f9,⟨O,O,O,O⟩,⟨O,hi.1⟩,O,O,O,f9,⟨O,O⟩,hi.1,⟨O,O⟩,⟨⟨hl.symm,⟨trivial,λ_ _=>trivial⟩,⟨trivial,λ_ _=>trivial⟩,⟨trivial,λ_ _=>trivial⟩,trivial,λ_ _=>trivial⟩,trivial⟩,hl.symm,λj hj=>by rw[zue _ _ _ _ _ hi.1,x9 hj]⟩
end
end Go.Proofs.S25
