import Derived.Test.YtgcpdfihjmmggaaGreatDoorXzk
import Derived.Test.YtgcpdfihjmmggaaGreatDoorXzl
import Derived.Test.YtgcpdfihjmmggaaGreatDoorXzc
namespace Go.Proofs.S25
open Go Go.AV Tryz
open Go.IntKind renaming i64 -> j6
open Go.AV.ex (ey)
noncomputable section
variable {w:World} {F:Nat ->Prop} {P:Nat ->Prop} (p:ai) (a:Ev) (b:Ev) (m:i8) (c:Int) (l:List Acc) (v:Acc) (x:Acc) (k:Nat)
def c0a:Acc:=⟨0,0,0,false⟩
def wl:AV:= .agg [d9 x.kind,d9 x.id,d9 x.sub, .bool x.wt]
def vAc:AV:= .mc zm (wl x)
def ax5:AV:= .seq zm l.length λi=>wl (l.getD i c0a)
abbrev aC3:ar:= .cell 205 zm (wl x)
def ut (l:List Acc) (v:Acc):Nat ->Int
 |0=> -1
 |k+1=>if v=l.getD (l.length - (k+1)) c0a then((l.length - (k+1):Nat):Int)else ut l v k
def oAc (a b:Ev) (l:List Acc) (v:Acc) (x:Acc):FuncId ->List AV ->Option AV
 |121,[.int _ a]=>some (d9 (aX a))
 |118,[.int _ a]=>some (d9 (m6 a))
 |59,[.int _ a]=>some (.bool (decide (a<0)))
 |243,_=>some (d9 (ut l v l.length))
 |_,_=>none
noncomputable def vAx (l:List Acc) (v:Acc) (n:Nat) (I:Nat ->Option lm):bm:={C:={At n with iZ:=λd=>Nat.beq d 38},CC:=mp prog GE,b9:=λ_ _=>oAc aW aW l v c0a,inv:=I}
def aCp:Option lm:=match Nat.beq k 2 with
 |true=>iw l.length (λi=>⟨[(0,ax5 l),(3, .ptr 3 []),(7,d9 l.length),(8,d9 i)],[(3,aC3 v)]⟩) λi=>ut l v l.length=ut l v (l.length - i)
 |false=>none
theorem lt1 (e:P 0):∀ i,i<1 ->P i
 |0,_=>e
theorem lt2 (f:P 0) (e:P 1):∀ i,i<2 ->P i
 |0,_=>f
 |1,_=>e
theorem lt3 (f:P 0) (e:P 1) (h2:P 2):∀ i,i<3 ->P i
 |0,_=>f
 |1,_=>e
 |2,_=>h2
section
variable (e:Ev)
def axn:Int:=(apn e).access
def aA3:=axn e==4
def axz:=!aA3 e
def axr:=axz e=true
def axb:=axr e->axr e
def aB0:=(apn e).write
def az5:=!aB0 e
def ayz:=(axz e&&az5 e)=true
def aBn:=ayz e->ayz e
def ayv:=az5 e&&axn e==1
def axt:=(axz e&&ayv e)=true
def aBk:=axt e->axt e
def axe:=1*zm.size<=16777216
def ayu:List AV:=[d9 0,d9 0,d9 0,AV.bool false]
def axy:List AV:=List.replicate 1 (AV.agg ayu)
def azp:=AV.bool (aB0 e)
def ayh:List AV:=axy.set 0 (AV.agg [d9 4,d9 (aX e.aC),d9 e.entry,azp e])
def aAb:=aA3 e||ayv e&&decide (0<=e.entry)
def aAn:=axn e==0
def aBg:=↑(1:Nat)*↑(32:Nat)<=(140737488355328:Int)/\1<=9223372036854775807
def ax6:Nat:=1+1
def aBp:=RR 1/\↑ax6*↑(32:Nat)<=(140737488355328:Int)/\ax6<=9223372036854775807
def axf:Nat:=ax6+1
def aB1:List AV:=axy.set 0 (AV.agg (((ayu.set 0 (aq (d9 (axn e)))).set 1 (aq (d9 e.ii))).set 3 (aq (azp e))))
variable (x0:Nat)
def aAu:Nat:=x0 - 1
variable (x1:Nat)
def azv:=if x1<1 then(axy.set 0 (AV.agg (((ayu.set 0 (aq (d9 2))).set 1 (aq (d9 e.k7))).set 3 (aq (AV.bool true))))).getD x1 AV.any else(aB1 e).getD (aAu x1) AV.any
def aAj:=(e.kind==4)=true
def aB2:=ax6<=ax6
def aBm:=ax6=(ms e).length
def azx:=x0<ax6
def azy:=(e.kind==4)=false
def aBh:=(aB1 e).getD x1 AV.any
end
theorem aCb (e:Ev) (h:1<=e.kind/\e.kind<=17) (ha:jY e.aC):mp prog GE 199 [dh e] (ax5 (ms e)):=by
 refine Kn (vAx [] c0a 69 λ_=>none) func199 (aM j6 (aqa e)/\af (aqa e) 17/\mp prog GE (121:Nat) [d9 e.aC] (d9 (aX e.aC))/\axb e/\axb e/\axb e/\aBn e/\aBn e/\axb e/\(axr e->az5 e=true->ayz e)/\axb e/\aBk e/\aBk e/\axb e/\(axr e->ayv e=true->axt e)/\axb e/\Z (aAb e) (axe/\1=(ms e).length/\∀ i:Nat,i<1->(ayh e).getD i AV.any=wl ((ms e).getD i c0a)) (Z (aAn e) ((ms e).length=0) (Z (e.kind==12) (axe/\aBg/\qf/\axe/\aBp/\qf/\(aAj e->axe/\(RR ax6/\↑axf*↑(32:Nat)<=(140737488355328:Int)/\axf<=9223372036854775807)/\qf/\axf<=axf/\axf=(ms e).length/\∀ i:Nat,i<axf->(if i<1+1 then azv e i else(ayh e).getD (i - ax6) AV.any)=wl ((ms e).getD i c0a))/\(azy e->aB2/\aBm e/\∀ i:Nat,azx i->azv e i=wl ((ms e).getD i c0a))) (axe/\aBg/\qf/\(aAj e->axe/\aBp/\qf/\aB2/\aBm e/\∀ i:Nat,azx i->(if i<1 then aBh e i else(ayh e).getD (aAu i) AV.any)=wl ((ms e).getD i c0a))/\(azy e->qf/\1=(ms e).length/\∀ i:Nat,i<1->aBh e i=wl ((ms e).getD i c0a)))))) ?_;try delta Z aqa apn axn aA3 axz axr axb aB0 az5 ayz aBn ayv axt aBk axe ayu axy azp ayh aAb aAn aBg qf ax6 aBp axf aB1 aAu azv aAj aB2 aBm azx azy aBh
 simp only[SZ];unfold ms axj;have hE:rg e=m5.getD (e.kind - 1).toNat m7:=rfl;rw[hE];generalize m5.getD (e.kind - 1).toNat m7=r;refine⟨f9,O,u6 (ad5 _ ha),λh=>?_,λh=>?_⟩;rw[x9 (h.elim .inl λh=> .inr ⟨h.1.1,h.1.2,h.2⟩)];exact⟨am,rfl,lt1 rfl⟩;rw[x8 (λq=>q.elim h.1 λq=>h.2.elim (λh=>h.elim (λh=>by rw[q.1]at h;cases h) λh=>h q.2.1) λh=>h q.2.2)];refine⟨λh0=>by rw[x9 h0];rfl,λh0=>?_⟩;rw[x8 h0];refine⟨λh12=>⟨am,am,am,am,λh4=>?_,λh4=>?_⟩,λh12=>⟨am,am,λh4=>?_,λh4=>?_⟩⟩;rw[x9 h12,x9 h4];exact⟨am,am,rfl,lt3 rfl rfl rfl⟩;rw[x9 h12,x8 h4];exact⟨rfl,lt2 rfl rfl⟩;rw[x8 h12,x9 h4];exact⟨am,am,rfl,lt2 rfl rfl⟩;rw[x8 h12,x8 h4];exact⟨rfl,lt1 rfl⟩
theorem aC6 (i:Nat) (f:i<l.length):ut l v (l.length - i)=if v=l.getD i c0a then(i:Int)else ut l v (l.length - (i+1)):=by
 obtain⟨k,e⟩:∃ k,l.length - i=k+1:=⟨l.length - i - 1,O⟩;rw[e,ut,show l.length - (k+1)=i from O,show k=l.length - (i+1)from O]
theorem aCi (l:List Acc) (v:Acc):∀ k,k<=l.length ->(0<=ut l v k↔∃ i,l.length - k<=i/\i<l.length/\v=l.getD i c0a)
 |0,_=>⟨λh=>absurd (show(0:Int)<= -1 from h) am,λ⟨i,m,j,_⟩=>O⟩
 |k+1,u=>by
  simp[ut]
  split
  rename_i h
  exact⟨λ_=>⟨l.length - (k+1),O,O,h⟩,λ_=>O⟩
  rename_i h
  rw[aCi l v k O]
  refine⟨λ⟨i,m,j,f⟩=>⟨i,O,j,f⟩,λ⟨i,m,j,f⟩=>⟨i, ?_,j,f⟩⟩
  by_cases e:i=l.length - (k+1)
  subst e;exact absurd f h
  omega
theorem aCd {x y:Acc}:x=y↔x.kind=y.kind/\x.id=y.id/\x.sub=y.sub/\x.wt=y.wt:=by cases x;cases y;simp
section
variable (l:List Acc) (v:Acc) (x2:Nat)
def ayg:=x2<=l.length/\ut l v l.length=ut l v (l.length - x2)
def aAg:=RR l.length/\∀ (i:Nat),i<l.length->RR (wl (l.getD i c0a))
def azh:=RR v.kind/\RR v.id/\RR v.sub/\RR v.wt
def azu:=v.kind==(l.getD (↑x2:Int).toNat c0a).kind&&(v.id==(l.getD (↑x2:Int).toNat c0a).id&&(v.sub==(l.getD (↑x2:Int).toNat c0a).sub&&(v.wt==(l.getD (↑x2:Int).toNat c0a).wt&&true)))
variable (x1:Nat)
def aAy:=decide ((↑x1:Int)<(↑l.length:Int))
end
theorem aDb (hl:l.length<=1000000):mp prog GE 243 [ax5 l,vAc v] (d9 (ut l v l.length)):=by
 refine Kn (vAx l v 19 (aCp l v)) func243 (aH ↑l.length/\(∃ i,ayg l v i/\(aAg l/\RR (↑l.length:Int)/\0=(↑i:Int))/\azh v)/\∀ i:Nat,ayg l v i->Z (aAy l i) (af (↑i) l.length/\Z (azu l v i) (↑i=ut l v l.length) (aM j6 (q9 i)/\(∃ j,ayg l v j/\l.length - j<l.length - i/\(aAg l/\RR (↑l.length:Int)/\q9 i=(↑j:Int))/\azh v))) (-1=ut l v l.length)) ?_;try delta Z aH ayg aAg azh azu q9 aAy
 simp only[SZ];refine⟨O,⟨0,⟨O,by rw[yg]⟩,rfl⟩,λi e=>⟨λhlt=>⟨hlt,λh=>?_,λh=>⟨f9,i+1,⟨O, ?_⟩,O,O⟩⟩,λhge=>?_⟩⟩;rw[e.2,aC6 l v i hlt,x9 (aCd.2 h)];rw[e.2,aC6 l v i hlt,x8 (λq=>by have :=aCd.1 q;simp_all)];rw[e.2,show l.length - i=0 from O];rfl
theorem aCz (hl:l.length<=1000000):mp prog GE 200 [ax5 l,vAc v] (.bool (l.contains v)):=by
 refine Kn (vAx l v 9 λ_=>none) func200 ((mp prog GE (243:Nat) [AV.seq zm l.length λi=>wl (l.getD i c0a),AV.mc zm (AV.agg [d9 v.kind,d9 v.id,d9 v.sub,AV.bool v.wt])] (d9 (ut l v l.length)))/\decide (0<=ut l v l.length)=l.contains v) ?_;try simp only[SZ]
 refine⟨aDb l v hl, ?_⟩;rw[wk,xd,kg,aCi l v _ (xm _)];constructor;rintro⟨i,_,h,rfl⟩;rw[x7,xe h];exact wm h;intro h;have⟨i,f,e⟩:=yq h;exact⟨i,O,f,by rw[x7,xe f];exact e.symm⟩
section
variable (a:Ev)
def aBu:=(a.kind !=16)=true
def ay3:=aBu a->aBu a
def aBa:=a.kind !=16&&a.kind !=17
variable (b:Ev)
def axm:=(!a.ii==aX b.aC)=true
def axd:=axm a b->axm a b
def ayw:=(!a.ii==aX b.aC&&a.kind==16)=true
def aAt:=ayw a b->ayw a b
def ayd:=a.kind==16&&b.kind==17
def ays:=(!a.ii==aX b.aC&&ayd a b)=true
def axl:=ays a b->ays a b
end
theorem aBz (e:jY b.aC):mp prog GE 133 [dh a,dh b] (.bool (crE a b)):=by
 refine Kn (vAx [] c0a 36 λ_=>none) func133 (ay3 a/\ay3 a/\ay3 a/\Z (aBa a) (false=crE a b) (mp prog GE (121:Nat) [d9 b.aC] (d9 (aX b.aC))/\axd a b/\axd a b/\axd a b/\aAt a b/\aAt a b/\axd a b/\(axm a b->(a.kind==16)=true->ayw a b)/\axd a b/\axl a b/\axl a b/\axl a b/\axl a b/\axd a b/\(axm a b->ayd a b=true->ays a b)/\axd a b/\(a.ii==aX b.aC||ayd a b&&a.ii==b.ii)=crE a b)) ?_;try delta Z aBu ay3 aBa axm axd ayw aAt ayd ays axl
 simp only[SZ];refine⟨λh=>?_,λh=>⟨u6 (ad5 _ e), ?_⟩⟩;simp[crE,h];have :(a.kind==16 || a.kind==17)=true:=by simpa using h
 rw[crE,this,wc,Bool.and_assoc]
section
variable (a:Ev)
def az0:=decide (a.aC<0)
def ayk:=(!az0 a)=true
def axg:=ayk a->ayk a
variable (b:Ev)
def aAr:=az0 a||b.aC !=m6 a.aC
def aA2:=(a.kind==1)=true
def aA9:=(a.kind==1)=false
def aBd:=(a.kind==2)=true
def azc:=(a.kind==2)=false
def aBc:=(a.kind==3)=true
def aAf:=(a.kind==3)=false
end
theorem aC1 (ha:jY a.aC):mp prog GE 134 [dh a,dh b] (.bool (drE a b)):=by
 refine Kn (vAx [] c0a 23 λ_=>none) func134 (mp prog GE (59:Nat) [d9 a.aC] (AV.bool (az0 a))/\axg a/\axg a/\axg a/\(ayk a->mp prog GE (118:Nat) [d9 a.aC] (d9 (m6 a.aC)))/\axg a/\axg a/\axg a/\Z (aAr a b) (false=drE a b) ((aA2 a->(aA2 a->false=drE a b)/\(aA9 a->true=drE a b))/\(aA9 a->(aBd a->(aBd a->false=drE a b)/\(azc a->true=drE a b))/\(azc a->(aBc a->(aBc a->false=drE a b)/\(aAf a->true=drE a b))/\(aAf a->Z (a.kind==8) (false=drE a b) (true=drE a b)))))) ?_;try delta Z az0 ayk axg aAr aA2 aA9 aBd azc aBc aAf
 simp only[SZ];refine⟨u6 (aib _),λh=>u6 (aaa _ ⟨O,by unfold jY at ha;omega⟩),λh=>?_,λh=>?_⟩;unfold drE;simp only[Bool.not_or,xy];rcases h with h |h<;>simp[h];have e:drE a b=!(a.kind==1 || (a.kind==2 || (a.kind==3 || a.kind==8))):=by
  unfold drE;simp[h]
 rw[e];refine⟨λh1=>⟨λ_=>by simp[h1],λq=>absurd h1 q⟩,λh1=>⟨λh2=>⟨λ_=>by simp[h2],λq=>absurd h2 q⟩,λh2=>⟨λh3=>⟨λ_=>by simp[h3],λq=>absurd h3 q⟩,λh3=>⟨λh8=>by simp[h8],λh8=>by simp[h1,h2,h3,h8]⟩⟩⟩⟩
def wb (b:Int) (s:ja) (i:Nat):ja:=(zt p b s ((cI p s).getD i 0)).1
structure au1 (p:ai) (b:Int) (s:ja):Prop where
 step:∀ i,i<(cI p s).length ->(zt p b s ((cI p s).getD i 0)).2.2=0/\aqx s (wb p b s i) ((cI p s).getD i 0)/\(wb p b s i).ae.length=(wb p b s i).ab.length/\pp (zt p b s ((cI p s).getD i 0)).2.1=true
 drn:(cI p s).length=0 ->un s.ae=true
 i64:∀ i,i<(cI p s).length ->jY ((cI p s).getD i 0)
theorem avj {p:ai} {b:Int} {s:ja} (h:bI p) (j:cw s) (k:aV p b=0) (I:ul p b s):au1 p b s:=by
 have y:cI p s=cL p s:=by unfold cI;rw[x9 (rc I.val)]
 have f:∀ i,i<(cI p s).length ->aQ (cL p s) ((cI p s).getD i 0)=true:=λi e=>by
  rw[zcu,<- y,x7,xe e];exact wm e
 refine⟨λi e=>?_,avn I.val,λi e=>?_⟩;rotate_left;have⟨m,_⟩:=zs0 (rc I.val) (f i e);have⟨x,u⟩:=nL m;have :=sG I.val x;rw[u]at this;unfold aX at this;constructor<;>split at this<;>omega;have f:=f i e;have⟨J,H,F,E⟩:=u4 h j k I f;exact⟨J,F,(z12.1 H.val).2.1,by rw[E];exact ave h j I f⟩
def dAc:AV ->Acc
 | .agg [.int _ a, .int _ b, .int _ c, .bool d]=>⟨a,b,c,d⟩
 |_=>c0a
theorem aCy (a b c:Int) (d:Bool):dAc (.agg [d9 a,d9 b,d9 c, .bool d])=⟨a,b,c,d⟩:=rfl
def oCf:Nat ->FuncId ->List AV ->Option AV
 |1,199,_=>some (ax5 (ms b))
 |_,199,_=>some (ax5 (ms a))
 |_,200,[_, .mc _ y]=>some (.bool ((ms b).contains (dAc y)))
 |_,23,[.mc _ e]=>some (.bool (pp (jX e)))
 |_,133,[.mc _ e, .mc _ f]=>some (.bool (crE (jX e) (jX f)))
 |_,134,[.mc _ e, .mc _ f]=>some (.bool (drE (jX e) (jX f)))
 |_,135,[.mc _ e, .mc _ f]=>some (.bool (ax8 (jX e) (jX f)))
 |_,_,_=>none
noncomputable def vCf (a b:Ev) (n:Nat) (I:Nat ->Option lm):bm:={C:=At n,CC:=mp prog GE,b9:=λi _=>oCf a b i,inv:=I}
def hit (w:Bool):Bool:=(((ms a).getD k c0a).wt || w)&&(ms b).contains {(ms a).getD k c0a with wt:=w}
def aD4:Option lm:=match Nat.beq k 3 with
 |true=>iw ((ms a).length) (λi=>⟨[(2, .ptr 2 []),(3, .ptr 3 []),(5,ax5 (ms b)),(14,ax5 (ms a)),(15,d9 (ms a).length),(16,d9 i)],[(2,Wl a),(3,Wl b)]⟩) λi=>∀ j,j<i ->hit a b j false=false/\hit a b j true=false
 |false=>none
def aDj:Option tK:=match Nat.beq k 6 with
 |true=>some {π:=Nat,I:=λk=>{ι:=Nat,S:=λi=>⟨[(2, .ptr 2 []),(3, .ptr 3 []),(5,ax5 (ms b)),(7, .ptr 7 []),(14,ax5 (ms a)),(15,d9 (ms a).length),(16,d9 k),(20, .own 20 2),(21,d9 2),(22,d9 i)],[(2,Wl a),(3,Wl b),(7,aC3 ((ms a).getD k c0a)),(20, .row 4 .ey 2 λi=> .bool (decide (i=1)))]⟩,μ:=λi=>2 - i,ok:=λi=>i<=2/\k<(ms a).length/\(∀ j,j<k ->hit a b j false=false/\hit a b j true=false)/\∀ j,j<i ->hit a b k (decide (j=1))=false}}
 |false=>none
theorem aCk (e:Ev):(ms e).length<=3:=by
 unfold ms;split;simp;split;simp;split<;>split<;>simp
theorem aC2 {a b:Ev}:ax8 a b=true↔∃ k,k<(ms a).length/\(hit a b k false=true∨hit a b k true=true):=by
 unfold ax8;rw[List.any_eq_true];have e:∀ x:Acc,([false,true].any λw=>(x.wt || w)&&(ms b).contains {x with wt:=w})=true↔(((x.wt || false)&&(ms b).contains {x with wt:=false})=true∨((x.wt || true)&&(ms b).contains {x with wt:=true})=true):=λx=>by
  rw[List.any_cons,List.any_cons,List.any_nil,jq,xk];simp
 constructor;rintro⟨x,i,h⟩;obtain⟨k,f,rfl⟩:=yq i;have g:(ms a).getD k c0a=(ms a)[k]:=by rw[x7,xe f];rfl
 refine⟨k,f, ?_⟩;unfold hit;rw[g];exact(e _).1 h;rintro⟨k,f,h⟩;have g:(ms a).getD k c0a=(ms a)[k]:=by rw[x7,xe f];rfl
 unfold hit at h;rw[g]at h;exact⟨_,wm f,(e _).2 h⟩
section
variable (b:Ev)
def aAp:=AV.seq zm (ms b).length λi=>wl ((ms b).getD i c0a)
end
section
variable (a:Ev) (b:Ev) (x2:Nat)
def azw:=∀ j:Nat,j<x2->hit a b j false=false/\hit a b j true=false
def ayc:=x2<=(ms a).length/\azw a b x2
def axk:=RR (ms b).length/\∀ (i:Nat),i<(ms b).length->RR (wl ((ms b).getD i c0a))
def axq:=RR (ms a).length/\∀ (i:Nat),i<(ms a).length->RR (wl ((ms a).getD i c0a))
variable (x0:Nat)
def azl:=decide (x0=1)
variable (x3:Nat)
def ay8:=x3<=2/\x2<(ms a).length/\azw a b x2/\∀ j:Nat,j<x3->hit a b x2 (azl j)=false
def aB5:=AV.bool (azl x0)
def aB9:=decide ((↑x0:Int).toNat=1)
end
section
variable (a:Ev) (x1:Nat) (x2:Nat)
def azk:=((ms a).getD x1 c0a).wt||aB9 x2
def ayl:=azk a x1 x2=true
def az3:=ayl a x1 x2->ayl a x1 x2
def aAx:=AV.agg [d9 ((ms a).getD x1 c0a).kind,d9 ((ms a).getD x1 c0a).id,d9 ((ms a).getD x1 c0a).sub,AV.bool (aB9 x2)]
end
section
variable (a:Ev) (b:Ev) (x2:Nat) (x3:Nat)
def azf:=(ms b).contains (dAc (aAx a x2 x3))
def az9:=azk a x2 x3&&azf a b x2 x3
variable (x0:Nat)
def azo:Nat:=2 - x0
def azd:=decide (↑x0<(2:Int))
variable (x1:Nat)
def aAl:=decide ((↑x1:Int)<(↑(ms a).length:Int))
end
theorem aDi (ha:1<=a.kind/\a.kind<=17) (hb:1<=b.kind/\b.kind<=17) (ia:jY a.aC) (ib:jY b.aC):mp prog GE 135 [dh a,dh b] (.bool (ax8 a b)):=by
 refine Kn {vCf a b 41 (aD4 a b)with ui:=aDj a b} func135 (mp prog GE (199:Nat) [AV.mc bF (bX b)] (aAp b)/\(mp prog GE (199:Nat) [AV.mc bF (bX a)] (AV.seq zm (ms a).length λi=>wl ((ms a).getD i c0a)))/\aH ↑(ms a).length/\(∃ i,ayc a b i/\(axk b/\axq a/\RR (↑(ms a).length:Int)/\0=(↑i:Int))/\LS (bX a) (bX a)/\LS (bX b) (bX b))/\∀ i:Nat,ayc a b i->Z (aAl a i) (af (↑i) (ms a).length/\2*ey.size<=16777216/\aH ↑(2:Nat)/\(∃ p,(∃ i_1,ay8 a b p i_1/\(axk b/\axq a/\RR (↑(ms a).length:Int)/\(↑i:Int)=(↑p:Int)/\RR (2:Nat)/\(↑(2:Nat):Int)=(2:Int)/\(0:Int)=(↑i_1:Int))/\LS (bX a) (bX a)/\LS (bX b) (bX b)/\(((ms a).getD (↑i:Int).toNat c0a).kind=((ms a).getD p c0a).kind/\((ms a).getD (↑i:Int).toNat c0a).id=((ms a).getD p c0a).id/\((ms a).getD (↑i:Int).toNat c0a).sub=((ms a).getD p c0a).sub/\((ms a).getD (↑i:Int).toNat c0a).wt=((ms a).getD p c0a).wt)/\RR (2:Nat)/\∀ (i:Nat),i<(2:Nat)->(((List.replicate (2:Nat) (AV.bool false)).set (0:Nat) (aq (AV.bool false))).set (1:Nat) (aq (AV.bool true))).getD i AV.any=aB5 i)/\∀ (i_1:Nat),ay8 a b p i_1->Z (azd i_1) (af (↑i_1:Int) (2:Nat)/\(↑i_1:Int).toNat<(2:Nat)/\((!((ms a).getD p c0a).wt)=true->(!((ms a).getD p c0a).wt)=true)/\az3 a p i_1/\az3 a p i_1/\(ayl a p i_1->mp prog GE (200:Nat) [aAp b,AV.mc zm (aAx a p i_1)] (AV.bool (azf a b p i_1)))/\az3 a p i_1/\Z (az9 a b p i_1) (true=ax8 a b) (qa i_1/\∃ j,ay8 a b p j/\azo j<azo i_1/\(axk b/\axq a/\RR (↑(ms a).length:Int)/\RR (↑p:Int)/\RR (2:Nat)/\RR (2:Int)/\qb i_1 j)/\LS (bX a) (bX a)/\LS (bX b) (bX b)/\(RR ((ms a).getD p c0a).kind/\RR ((ms a).getD p c0a).id/\RR ((ms a).getD p c0a).sub/\RR ((ms a).getD p c0a).wt)/\RR (2:Nat)/\∀ (i:Nat),i<(2:Nat)->RR (aB5 i))) (qa p/\∃ j,ayc a b j/\(ms a).length - j<(ms a).length - i/\(axk b/\axq a/\RR (↑(ms a).length:Int)/\qb p j)/\LS (bX a) (bX a)/\LS (bX b) (bX b)))) (false=ax8 a b)) ?_;try delta Z aH aAp azw ayc axk axq azl ay8 aB5 aB9 azk ayl az3 aAx azf az9 q9 qa azo qb azd aAl
 simp only[SB,af];simp only[aCy];have la:=aCk a;have lb:=aCk b;have H:∀ p w,hit a b p w=((((ms a).getD p c0a).wt || w)&&(ms b).contains ⟨((ms a).getD p c0a).kind,((ms a).getD p c0a).id,((ms a).getD p c0a).sub,w⟩):=λ_ _=>rfl;refine⟨aCb b hb ib,aCb a ha ia,O,⟨0,⟨O,λj hj=>O⟩,rfl,fp rfl,fp rfl⟩,λi hi=>⟨λhlt=>⟨hlt,am,am,i,⟨0,⟨O,hlt,hi.2,λj hj=>O⟩,⟨rfl,rfl,rfl⟩,fp rfl,fp rfl,⟨rfl,rfl,rfl,rfl⟩,lt2 rfl rfl⟩,λq hq=>⟨λhl2=>⟨O,O,λ_=>aCz (ms b) ⟨((ms a).getD i c0a).kind,((ms a).getD i c0a).id,((ms a).getD i c0a).sub,decide (q=1)⟩ O,λh=>?_,λh=>⟨f9,q+1,⟨O,hlt,hi.2,λj hj=>?_⟩,O,O,fp rfl,fp rfl⟩⟩,λhge=>⟨f9,i+1,⟨O,λj hj=>?_⟩,O,O,fp rfl,fp rfl⟩⟩⟩,λhge=>?_⟩⟩;refine(aC2.2 ⟨i,hlt, ?_⟩).symm;by_cases e:q=1;refine .inr ?_;rw[H];have :=h.2;rw[wy e]at this;rw[this];simp;refine .inl ?_;rw[H];have h2:=h.2;have h1:=h.1.resolve_right e;rw[jn e]at h2;rw[h2,h1];rfl;by_cases e:j=q;subst e;rw[H];rcases h with h |h;rw[jn h.2,h.1];rfl;rw[h,Bool.and_false];exact hq.2.2.2 j O;by_cases e:j=i;subst e;exact⟨hq.2.2.2 0 O,hq.2.2.2 1 O⟩;exact hi.2 j O;refine(Bool.eq_false_iff.2 λh=>?_).symm;have⟨k,hk,h⟩:=aC2.1 h;have :=hi.2 k O;rw[this.1,this.2]at h;rcases h with h |h<;>cases h
theorem aBw {e:Ev} (h:pp e):1<=e.kind/\e.kind<=17:=by
 unfold pp at h;split at h;cases h;rename_i q;simp at q;omega
section
variable (a:Ev)
def ayx:=(!!pp (jX (bX a)))=true->(!!pp (jX (bX a)))=true
variable (b:Ev)
def ay4:=(!a.aC==b.aC)=true
def axu:=ay4 a b->ay4 a b
def ayp:List AV:=[AV.mc bF (bX a),AV.mc bF (bX b)]
def azs:=a.aC==b.aC||crE (jX (bX a)) (jX (bX b))
def ayj:=(!azs a b)=true
def ayy:=ayj a b->ayj a b
def aAw:List AV:=[AV.mc bF (bX b),AV.mc bF (bX a)]
def aB6:=azs a b||crE (jX (bX b)) (jX (bX a))
def ayn:=(!aB6 a b)=true
def axv:=ayn a b->ayn a b
def aAd:=aB6 a b||drE (jX (bX a)) (jX (bX b))
def ayb:=(!aAd a b)=true
def ayq:=ayb a b->ayb a b
def azr:=aAd a b||drE (jX (bX b)) (jX (bX a))
def ay9:=(!azr a b)=true
def ay5:=ay9 a b->ay9 a b
end
theorem aCr (f:jY a.aC) (e:jY b.aC):mp prog GE 60 [dh a,dh b] (.bool (axa a b)):=by
 refine Kn (vCf a b 43 λ_=>none) func60 (mp prog GE (23:Nat) [AV.mc bF (bX a)] (AV.bool (pp (jX (bX a))))/\ayx a/\((!!pp (jX (bX a)))=true->mp prog GE (23:Nat) [AV.mc bF (bX b)] (AV.bool (pp (jX (bX b)))))/\ayx a/\ayx a/\Z (!pp (jX (bX a))||!pp (jX (bX b))) (false=axa a b) (axu a b/\axu a b/\(ay4 a b->mp prog GE (133:Nat) (ayp a b) (AV.bool (crE (jX (bX a)) (jX (bX b)))))/\axu a b/\ayy a b/\ayy a b/\(ayj a b->mp prog GE (133:Nat) (aAw a b) (AV.bool (crE (jX (bX b)) (jX (bX a)))))/\ayy a b/\axv a b/\axv a b/\(ayn a b->mp prog GE (134:Nat) (ayp a b) (AV.bool (drE (jX (bX a)) (jX (bX b)))))/\axv a b/\ayq a b/\ayq a b/\(ayb a b->mp prog GE (134:Nat) (aAw a b) (AV.bool (drE (jX (bX b)) (jX (bX a)))))/\ayq a b/\ay5 a b/\ay5 a b/\(ay9 a b->mp prog GE (135:Nat) (ayp a b) (AV.bool (ax8 (jX (bX a)) (jX (bX b)))))/\ay5 a b/\(azr a b||ax8 (jX (bX a)) (jX (bX b)))=axa a b)) ?_;try delta Z ayx ay4 axu ayp azs ayj ayy aAw aB6 ayn axv aAd ayb ayq azr ay9 ay5
 simp only[SZ];refine⟨aut a,λ_=>aut b,λh=>?_,λh=>⟨λ_=>aBz a b e,λ_=>aBz b a f,λ_=>aC1 a b f,λ_=>aC1 b a e,λ_=>aDi a b (aBw h.1) (aBw h.2) f e, ?_⟩⟩;unfold axa;rcases h with h |h<;>simp[h];unfold axa;rw[h.1,h.2];simp[Bool.or_assoc]
def oCm (b:Int) (s:ja) (a c:Int):Nat ->FuncId ->List AV ->Option AV
 |_,26,[_,_, .int _ x]=>some (.av [dh (zf p s x).1, .bool (zf p s x).2])
 |_,60,_=>some (.bool (axa (zf p s a).1 (zf p s c).1))
 |5,21,_=>some (.av [cx (zt p b s a).1,dh (zt p b s a).2.1,d9 (zt p b s a).2.2])
 |6,21,_=>some (.av [cx (zt p b (zt p b s a).1 c).1,dh (zt p b (zt p b s a).1 c).2.1,d9 (zt p b (zt p b s a).1 c).2.2])
 |7,21,_=>some (.av [cx (zt p b s c).1,dh (zt p b s c).2.1,d9 (zt p b s c).2.2])
 |8,21,_=>some (.av [cx (zt p b (zt p b s c).1 a).1,dh (zt p b (zt p b s c).1 a).2.1,d9 (zt p b (zt p b s c).1 a).2.2])
 |_,14,_=>some (.bool true)
 |_,9,_=>some (.bool (kn p))
 |_,11,_ |_,24,_=>some (.bool true)
 |_,17,_=>some (.av [cx s, .bool ((zp p b).2==0)])
 |_,22,_=>some (a8 (cI p s))
 |_,_,_=>none
noncomputable def vCm (p:ai) (b:Int) (s:ja) (a c:Int) (n:Nat) (I:Nat ->Option lm):bm:={C:=At n,CC:=mp prog GE,b9:=λi _=>oCm p b s a c i,inv:=I}
def aD1 (b:Int) (s:ja) (k:Nat):Option lm:=match Nat.beq k 8 with
 |true=>iw ((cI p s).length) (λi=>⟨[(1,d9 b),(3, .ptr 3 []),(7, .ptr 7 []),(9,a8 (cI p s)),(10,d9 i)],[(3,iM p),(7,fb s)]⟩) λi=>kn p=true/\(zp p b).2=0/\(cI p s).length<=20
 |false=>none
def aDe (b:Int) (s:ja) (k:Nat):Option tK:=match Nat.beq k 11 with
 |true=>some {π:=Nat,I:=λi=>{ι:=Nat,S:=λk=>⟨[(1,d9 b),(3, .ptr 3 []),(7, .ptr 7 []),(9,a8 (cI p s)),(10,d9 i),(11,d9 k)],[(3,iM p),(7,fb s)]⟩,μ:=λk=>i - k,ok:=λk=>k<=i/\i<(cI p s).length/\kn p=true/\(zp p b).2=0/\(cI p s).length<=20}}
 |false=>none
theorem aCt {p:ai} {b:Int} {s:ja} (e:cQ p b s):cI p s=cL p s:=by unfold cI;rw[x9 (rc e)]
theorem aCo {p:ai} {b:Int} {s:ja} {a:Int} (i:bI p) (j:cw s) (f:cQ p b s) (h:aQ (cL p s) a):(zf p s a).1.aC=a:=by
 have e:=(ax0 i j (rc f)).1 h;rw[ax3 (rc f) e.1 (ax9 e.2)];exact aya e.1
section
variable (s:ja) (c:Int)
def aA1:List AV:=[AV.mc aI (ze s),d9 c]
end
section
variable (p:ai) (s:ja) (a:Int) (c:Int)
def ay0:=axa (zf p s a).fst (zf p s c).fst
end
section
variable (p:ai) (b:Int) (s:ja) (a:Int)
def azt:=AV.mc aI (ze (zt p b s a).fst)
variable (c:Int)
def aBt:ja×Ev×Int:=zt p b (zt p b s a).fst c
def aAz:=AV.mc aI (ze (aBt p b s a c).fst)
def aAc:Ev×Int:=(aBt p b s a c).snd
def ax1:Ev:=(aAc p b s a c).fst
def aBr:Int:=(aAc p b s a c).snd
def aB3:=AV.mc aI (ze (zt p b s c).fst)
def ax4:Ev:=(zt p b s c).snd.fst
def aAh:Int:=(zt p b s c).snd.snd
def aBi:ja×Ev×Int:=zt p b (zt p b s c).fst a
def azn:=AV.mc aI (ze (aBi p b s a c).fst)
def aBo:Ev×Int:=(aBi p b s a c).snd
def ax2:Ev:=(aBo p b s a c).fst
def aA0:Int:=(aBo p b s a c).snd
def aAi:=qy p b s a==0
def azg:=aAi p b s a=true
def aA7:=azg p b s a->azg p b s a
def aBe:=aAi p b s a&&aBr p b s a c==0
def aB8:=aBe p b s a c=true
def aBj:=aB8 p b s a c->aB8 p b s a c
def aAo:=aBe p b s a c&&aAh p b s c==0
def azz:=aAo p b s a c=true
def azj:=azz p b s a c->azz p b s a c
def aBv:=aAo p b s a c&&aA0 p b s a c==0
def aAq:=aBv p b s a c=true
def ay6:=aAq p b s a c->aAq p b s a c
def azb:=aBv p b s a c&&((qp p b s a).aC==(zf p s a).fst.aC&&((qp p b s a).ly==(zf p s a).fst.ly&&((qp p b s a).kind==(zf p s a).fst.kind&&((qp p b s a).ii==(zf p s a).fst.ii&&((qp p b s a).k7==(zf p s a).fst.k7&&((qp p b s a).entry==(zf p s a).fst.entry&&((qp p b s a).ord==(zf p s a).fst.ord&&((qp p b s a).read==(zf p s a).fst.read&&((qp p b s a).i4==(zf p s a).fst.i4&&true)))))))))
def aBq:=azb p b s a c=true
def axx:=aBq p b s a c->aBq p b s a c
def aBb:=azb p b s a c&&((ax2 p b s a c).aC==(zf p s a).fst.aC&&((ax2 p b s a c).ly==(zf p s a).fst.ly&&((ax2 p b s a c).kind==(zf p s a).fst.kind&&((ax2 p b s a c).ii==(zf p s a).fst.ii&&((ax2 p b s a c).k7==(zf p s a).fst.k7&&((ax2 p b s a c).entry==(zf p s a).fst.entry&&((ax2 p b s a c).ord==(zf p s a).fst.ord&&((ax2 p b s a c).read==(zf p s a).fst.read&&((ax2 p b s a c).i4==(zf p s a).fst.i4&&true)))))))))
def azm:=aBb p b s a c=true
def axw:=azm p b s a c->azm p b s a c
def aAm:=aBb p b s a c&&((ax1 p b s a c).aC==(zf p s c).fst.aC&&((ax1 p b s a c).ly==(zf p s c).fst.ly&&((ax1 p b s a c).kind==(zf p s c).fst.kind&&((ax1 p b s a c).ii==(zf p s c).fst.ii&&((ax1 p b s a c).k7==(zf p s c).fst.k7&&((ax1 p b s a c).entry==(zf p s c).fst.entry&&((ax1 p b s a c).ord==(zf p s c).fst.ord&&((ax1 p b s a c).read==(zf p s c).fst.read&&((ax1 p b s a c).i4==(zf p s c).fst.i4&&true)))))))))
def az7:=aAm p b s a c=true
def ay7:=az7 p b s a c->az7 p b s a c
def azq:=aAm p b s a c&&((ax4 p b s c).aC==(zf p s c).fst.aC&&((ax4 p b s c).ly==(zf p s c).fst.ly&&((ax4 p b s c).kind==(zf p s c).fst.kind&&((ax4 p b s c).ii==(zf p s c).fst.ii&&((ax4 p b s c).k7==(zf p s c).fst.k7&&((ax4 p b s c).entry==(zf p s c).fst.entry&&((ax4 p b s c).ord==(zf p s c).fst.ord&&((ax4 p b s c).read==(zf p s c).fst.read&&((ax4 p b s c).i4==(zf p s c).fst.i4&&true)))))))))
def ay1:=azq p b s a c=true
def ayf:=ay1 p b s a c->ay1 p b s a c
end
theorem aD2 (b:Int) (s:ja) (a c:Int) (e:bI p) (w:mz s 200 399200) (y:lz) (k:aV p b=0) (I:ul p b s) (m:aQ (cL p s) a) (j:aQ (cL p s) c) (h:jY a) (x:jY c):mp prog GE 24 [vP p,d9 b,cx s,d9 a,d9 c] (.bool true):=by
 refine Kn (vCm p b s a c 119 λ_=>none) func24 (mp prog GE (26:Nat) (AV.mc z7 (ah p)::uM s a) (AV.av [AV.mc bF (bX (zf p s a).fst),AV.bool (zf p s a).snd])/\mp prog GE (26:Nat) (AV.mc z7 (ah p)::aA1 s c) (AV.av [AV.mc bF (bX (zf p s c).fst),AV.bool (zf p s c).snd])/\mp prog GE (60:Nat) [AV.mc bF (bX (zf p s a).fst),AV.mc bF (bX (zf p s c).fst)] (AV.bool (ay0 p s a c))/\Z (ay0 p s a c) (RR true) (mp prog GE (21:Nat) (AV.mc z7 (ah p)::d9 b::uM s a) (AV.av [azt p b s a,AV.mc bF (bX (qp p b s a)),d9 (qy p b s a)])/\mp prog GE (21:Nat) [AV.mc z7 (ah p),d9 b,azt p b s a,d9 c] (AV.av [aAz p b s a c,AV.mc bF (bX (ax1 p b s a c)),d9 (aBr p b s a c)])/\mp prog GE (21:Nat) (AV.mc z7 (ah p)::d9 b::aA1 s c) (AV.av [aB3 p b s c,AV.mc bF (bX (ax4 p b s c)),d9 (aAh p b s c)])/\mp prog GE (21:Nat) [AV.mc z7 (ah p),d9 b,aB3 p b s c,d9 a] (AV.av [azn p b s a c,AV.mc bF (bX (ax2 p b s a c)),d9 (aA0 p b s a c)])/\aA7 p b s a/\aA7 p b s a/\aBj p b s a c/\aBj p b s a c/\azj p b s a c/\azj p b s a c/\ay6 p b s a c/\ay6 p b s a c/\ay6 p b s a c/\axx p b s a c/\axx p b s a c/\axx p b s a c/\axw p b s a c/\axw p b s a c/\axw p b s a c/\ay7 p b s a c/\ay7 p b s a c/\ay7 p b s a c/\ayf p b s a c/\ayf p b s a c/\(ay1 p b s a c->mp prog GE (14:Nat) [aAz p b s a c,azn p b s a c] (AV.bool true))/\ayf p b s a c/\(azq p b s a c&&true)=true)) ?_;try delta Z uM aA1 ay0 azt qp qy aBt aAz aAc ax1 aBr aB3 ax4 aAh aBi azn aBo ax2 aA0 aAi azg aA7 aBe aB8 aBj aAo azz azj aBv aAq ay6 azb aBq axx aBb azm axw aAm az7 ay7 azq ay1 ayf
 simp only[SZ];have f:=w.sm;have w1:=zza (b:=b) (a:=a) e w O O;have u:=zza (b:=b) (a:=c) e w O O;have ga:=aCo e f I.val m;have E:=aCo e f I.val j;have stp:=λ(s:ja) (i n:Nat) (a:Int) (w:mz s i n) (hn:n<400000) (h:jY a)=>u6 (zqu p b s a e w.sm.o h (by have :=w.ab;omega) λ_ _ _ _ _ _=>abb p b s _ a e w.sm y (by have :=w.all;omega) (by have :=w.ab;omega));refine⟨u6 (zqt p s a e f.o h),u6 (zqt p s c e f.o x),aCr _ _ (by rw[ga];exact h) (by rw[E];exact x),λhd=>⟨stp s _ _ a w O h,stp _ _ _ c w1 O x,stp s _ _ c w O x,stp _ _ _ a u O h,λ_=>?_, ?_⟩⟩;have C:=comm e f w1.sm u.sm k I m j (aC4 (ave e f I m) (ave e f I j) hd);have w3:=zza (b:=b) (a:=a) e u O O;rw[C.eq];have :=ah8 _ _ w3.sm w3.sm;rw[wy rfl]at this;exact u6 this;have C:=comm e f w1.sm u.sm k I m j (aC4 (ave e f I m) (ave e f I j) hd);have⟨N,a2,_,K⟩:=u4 e f k I m;have⟨c1,J,_,c4⟩:=u4 e f k I j;have⟨H,_,_,d4⟩:=u4 e w1.sm k a2 C.en;have⟨F,_,_,e4⟩:=u4 e u.sm k J C.en';rw[C.lab]at d4;rw[C.aCf]at e4;simp only[N,c1,H,F,K,c4,d4,e4,and_self]
def ayo:=mp prog GE (11:Nat) [] (AV.bool true)/\RR true
section
variable (p:ai) (b:Int)
def aAa:=!Tu p b
def ayi:=(!aAa p b)=true
def axs:=ayi p b->ayi p b
variable (s:ja)
def aze:=↑(cI p s).length<=(9223372036854775807:Int)
def aAs:=aAa p b||decide ((20:Int)<↑(cI p s).length)
def aB7:=kn p=true/\(zp p b).snd=0/\(cI p s).length<=20
variable (x3:Nat)
def az2:=x3<=(cI p s).length/\aB7 p b s
def axp:=RR (cI p s).length/\∀ (i:Nat),i<(cI p s).length->RR (d9 ((cI p s).getD i 0))
variable (x4:Nat)
def aye:=x4<=x3/\x3<(cI p s).length/\aB7 p b s
variable (x2:Nat)
def aB4:=d9 ((cI p s).getD (↑x2:Int).toNat 0)
def az8:Nat:=(cI p s).length - x2
def aAe:=decide ((↑x2:Int)<(↑(cI p s).length:Int))
end
theorem aDd (b:Int) (l:List Int) (s:ja) (f:alx p) (m:NmP p) (y:lz) (u:wK) (hl:l.length<=140737488355328) (x:∀ i,jY (l.getD i 0)) (hs:s=hZ p b l):mp prog GE 8 [vP p,d9 b,a8 l] (.bool true):=by
 refine Kn {vCm p b s 0 0 59 (aD1 p b s)with ui:=aDe p b s} func8 (mp prog GE (9:Nat) [AV.mc z7 (ah p)] (AV.bool (kn p))/\Z (!kn p) ayo (mp prog GE (17:Nat) [AV.mc z7 (ah p),d9 b,a8 l] (AV.av [AV.mc aI (ze s),AV.bool (Tu p b)])/\mp prog GE (22:Nat) [AV.mc z7 (ah p),AV.mc aI (ze s)] (a8 (cI p s))/\axs p b/\(ayi p b->aze p s)/\axs p b/\axs p b/\Z (aAs p b s) ayo ((∃ i,az2 p b s i/\(RR b/\axp p s/\(0:Int)=↑i)/\LS (ah p) (ah p)/\LS (ze s) (ze s))/\∀ i:Nat,az2 p b s i->aze p s/\Z (aAe p s i) (∃ p_1,(∃ e,aye p b s p_1 e/\(RR b/\axp p s/\(↑i:Int)=(↑p_1:Int)/\(0:Int)=(↑e:Int))/\LS (ah p) (ah p)/\LS (ze s) (ze s))/\∀ (e:Nat),aye p b s p_1 e->Z (qxj p_1 e) (af (↑e:Int) (cI p s).length/\af (↑p_1:Int) (cI p s).length/\mp prog GE (24:Nat) [AV.mc z7 (ah p),d9 b,AV.mc aI (ze s),aB4 p s e,aB4 p s p_1] (AV.bool true)/\Z (!true) (false=true) (qa e/\∃ j,aye p b s p_1 j/\p_1 - j<p_1 - e/\(RR b/\axp p s/\RR (↑p_1:Int)/\qb e j)/\LS (ah p) (ah p)/\LS (ze s) (ze s))) (qa p_1/\∃ j,az2 p b s j/\az8 p s j<az8 p s i/\(RR b/\axp p s/\qb p_1 j)/\LS (ah p) (ah p)/\LS (ze s) (ze s))) ayo))) ?_;try delta Z ayo Tu aAa ayi axs aze aAs aB7 az2 axp aye aB4 q9 qa qb qxj az8 aAe
 simp only[SB,af,reduceCtorEq];refine⟨u6 (agn p f),λ_=>u6 zqy,λhf=>?_⟩;have hP:=acx hf m;have ht:p.ab.length<=1000:=by
  unfold kn at hf;rw[xa,xd,xd]at hf;have :=hf.2;unfold iA at this;omega
 have w0:=ace (b:=b) hP ht;have hw:=λi (hi:i<=200)=>F9 l hP w0 (xm _) i hi;have w:mz s 200 399200:=by
  rw[hs];unfold hZ;split;exact zma w0 O O;have h1:=zzb p b l (lJ l) 0;have h2:lJ l<=200:=by unfold lJ;omega
  have h3:W5 p b l<=200:=by unfold W5;omega
  exact zma (hw _ h3) h3 O
 have hT:=w.sm;have rch:=aka p b l hP u w0 O x;rw[<- hs]at rch;have hlen:=aeh p (s:=s);refine⟨u6 rch,u6 (abg p s hP hT.o),λ_=>O,λ_=>u6 zqy,λhc=>?_⟩;have hb:aV p b=0:=by
  have h:=hc.1;unfold zp at h;split at h;exact h;rename_i q;exact ye.1 q
 have I:ul p b s:=by rw[hs];exact av8 hP hc.1 λi hi=>(hw i hi).sm
 have L:=avj hP hT hb I;have hm:∀ i,i<(cI p s).length ->aQ (cL p s) ((cI p s).getD i 0)=true:=λi hi=>by
  rw[zcu,<- aCt I.val,x7,xe hi];exact wm hi
 have K:=λi j (hi:i<(cI p s).length) (hj:j<(cI p s).length)=>aD2 p b s _ _ hP w y hb I (hm i hi) (hm j hj) (L.i64 i hi) (L.i64 j hj);exact⟨⟨0,⟨xt _,hf,hc.1,O⟩,rfl,fp rfl,fp rfl⟩,λi hi=>⟨O,λhlt=>⟨i,⟨0,⟨xt _,hlt,hf,hc.1,O⟩,⟨rfl,rfl⟩,fp rfl,fp rfl⟩,λk hk=>⟨λhkl=>⟨O,hlt,K k i O hlt,λ_=>⟨f9,k+1,⟨O,hlt,hf,hc.1,O⟩,O,O,fp rfl,fp rfl⟩⟩,λ_=>⟨f9,i+1,⟨O,hf,hc.1,O⟩,O,O,fp rfl,fp rfl⟩⟩⟩,λ_=>u6 zqy⟩⟩
def gW (l:List Int):AV:= .bD .ey l.length λi=> d9 (l.getD i 0)
def afa (l:List (List Int)):ar:= .row 29 .ey l.length λi=>gW (l.getD i [])
def abn:List ar:=[bw m.eA,bw m.aa,afa m.a6,bw m.lT]
def Ze:FuncId ->List AV ->Option AV
 |225,[.seq _ n f]=>some (gW (zw n f))
 |_,_=>none
noncomputable def vEc (n:Nat):bm:={C:={di n (λ_ _=>false)with mq:=λd=>Nat.beq d 6},CC:=mp prog GG,b9:=λ_ _=>Ze,inv:=λ_=>none}
noncomputable def vEd (n:Nat) (inv:Nat ->Option lm):bm:={C:=di n λf d=>Nat.beq f 225&&(Nat.beq d 8 || (Nat.beq d 11 || Nat.beq d 18)),CC:=mp prog GG,b9:=λ_ _=>Ze,inv:=inv}
def oEq:FuncId ->List AV ->Option AV
 |189,[_, .int _ i, .int _ n]=>some (d9 (bC m i n))
 |253,[_, .int _ id]=>some (.bool (nt m id))
 |185,_=>some (va m)
 |_,_=>none
def ald:FuncId ->List AV ->Option (List ar)
 |185,_=>some (abn m)
 |_,_=>none
noncomputable def ab4 (m:i8) (n:Nat):ls:={di n (λ_ _=>false)with fresh:=ald m,iZ:=λd=>Nat.beq d 39}
noncomputable def vEq (m:i8) (n:Nat):bm:={C:=ab4 m n,CC:=mp prog GG,b9:=λ_ _=>oEq m,inv:=λ_=>none}
def mM (l:List Int):AV:= .seq .ey l.length λi=>if i<l.length then d9 (l.getD i 0)else .any
def vMq (id:Int):AV:= .mc zm (.agg [a8 (aZ m c id).1.eA,a8 (aZ m c id).1.aa, .seq .ey (aZ m c id).1.a6.length (λj=>if j=c.toNat then mM ((aZ m c id).1.a6.getD j [])else gW ((aZ m c id).1.a6.getD j [])),a8 (aZ m c id).1.lT])
def zze:Option lm:=match Nat.beq k 3 with
 |true=>iv m.a6.length λi=>⟨[(1, .ptr 1 []),(2, .ptr 2 []),(3, .ptr 3 []),(21,aE m.a6),(22,d9 m.a6.length),(23,d9 i)],[(1,iY m),(2,iY du),(3, .cell 32 zm (.agg [.own 8 m.eA.length, .own 11 m.aa.length, .own 15 m.a6.length, .own 18 m.lT.length])),(8,bw m.eA),(11,bw m.aa),(15, .row 29 .ey m.a6.length λj=>if j<i then gW (m.a6.getD j [])else .ax),(18,bw m.lT)]⟩
 |false=>none
theorem zur (l:List Int) (hl:l.length<=1000000):KN 225 [a8 l] (gW l):=by
 refine Kn (vEc 11) func225 (q8 l/\((0:Int)<=↑l.length/\(↑l.length:Int)<=(↑l.length:Int)/\↑(8:Nat)*↑l.length<=(140737488355328:Int)/\q8 l/\RR (↑l.length:Int))/\(0+(↑l.length:Int).toNat<=(↑l.length:Int).toNat/\(↑(↑l.length:Int).toNat:Int)<=9223372036854775807)/\(↑l.length:Int).toNat<=(↑l.length:Int).toNat/\(AV.bD ey (↑l.length:Int).toNat λi=>if 0<=i/\i<0+min l.length (↑l.length:Int).toNat then d9 (l.getD (i - 0) 0)else d9 0)=AV.bD ey l.length λi=>d9 (l.getD i 0)) ?_;try delta q8
 simp only[SZ];grind
section
variable (m:i8)
def Jr:=RR m.a6.length/\∀ (i:Nat),i<m.a6.length->RR (a8 (m.a6.getD i []))
variable (x1:Nat) (x2:Nat)
def Zw:=if x2<x1 then gW (m.a6.getD x2 [])else AV.ax
def vg:List Int:=zw (m.a6.getD (↑x1:Int).toNat []).length λi=>d9 ((m.a6.getD (↑x1:Int).toNat []).getD i 0)
def vK:=RR ((0:Nat))/\∀ (i:Nat),i<(0:Nat)->RR (d9 (List.getD [] i (0:Int)))
end
theorem age (hm:dk m):KF 185 [vM m] (va m) (abn m):=by
 refine nc (vEd 36 (zze m)) func185 ((KF (225:Nat) [a8 m.eA] (AV.own (0:Nat) m.eA.length) [ar.row (3:TypeId) ey (ql m) λi=>qu m i])/\(KF (225:Nat) [a8 m.aa] (AV.own (0:Nat) m.aa.length) [ar.row (3:TypeId) ey (qm m) λi=>qv m i])/\lk m/\((0:Int)<=↑m.a6.length/\(↑m.a6.length:Int)<=(↑m.a6.length:Int)/\↑(24:Nat)*↑m.a6.length<=(140737488355328:Int)/\lk m)/\(KF (225:Nat) [a8 m.lT] (AV.own (0:Nat) m.lT.length) [ar.row (3:TypeId) ey (qk m) λi=>qo m i])/\lk m/\(∃ (i:Nat),i<=List.length (i8.a6 m)/\(Jr m/\RR (↑(List.length (i8.a6 m)):Int)/\(0:Int)=(↑i:Int))/\LS (aj m) (aj m)/\(bt/\bt/\bt/\bt)/\(RR (List.length (i8.eA m))/\RR (List.length (i8.aa m))/\uv m/\RR (List.length (i8.lT m)))/\(ql m=List.length (i8.eA m)/\∀ (i:Nat),i<ql m->qu m i=d9 (List.getD (i8.eA m) i (0:Int)))/\(qm m=List.length (i8.aa m)/\∀ (i:Nat),i<qm m->qv m i=d9 (List.getD (i8.aa m) i (0:Int)))/\(uv m/\∀ (i_1:Nat),i_1<Int.toNat (↑(List.length (i8.a6 m)):Int)->AV.ax=Zw m i i_1)/\qk m=List.length (i8.lT m)/\∀ (i:Nat),i<qk m->qo m i=d9 (List.getD (i8.lT m) i (0:Int)))/\∀ i:Nat,i<=m.a6.length->Z (qj m i) (af (↑i) m.a6.length/\(KN 225 [a8 (m.a6.getD (↑i:Int).toNat [])] (AV.bD ey (vg m i).length λi_1=>d9 ((vg m i).getD i_1 (0:Int))))/\af (↑i) m.a6.length/\(↑i:Int).toNat<m.a6.length/\aM j6 (q9 i)/\(∃ (j:Nat),j<=List.length (i8.a6 m)/\qi m j<qi m i/\(Jr m/\RR (↑(List.length (i8.a6 m)):Int)/\q9 i=(↑j:Int))/\LS (aj m) (aj m)/\(vK/\vK/\(RR ((0:Nat))/\∀ (i:Nat),i<(0:Nat)->RR (a8 (List.getD [] i [])))/\vK)/\Xz m/\lp m/\lg m/\(RR (List.length (i8.a6 m))/\∀ (i_1:Nat),i_1<List.length (i8.a6 m)->(if i_1=Int.toNat (↑i:Int)then aq (gW (vg m i))else Zw m i i_1)=Zw m j i_1)/\mw m)) (Xz m/\lp m/\lg m/\(RR m.a6.length/\∀ (i_1:Nat),i_1<m.a6.length->Zw m i i_1=gW (m.a6.getD i_1 []))/\mw m)) ?_;try delta Z bt sQ ql qu tZ qm qv lk qB qk qo Jr uv Zw vg q9 qi vK Xz lp lg mw qj
 simp only[SZ];simp only[oR,w8,wg,w6,iL];have s3:=hm.a6;refine⟨rD _ hm.eA,rD _ hm.aa,O,⟨O,O⟩,rD _ hm.lT,O,⟨0,O,rfl,λj hj=>by rw[x8 O]⟩,λi hi=>⟨λhlt=>⟨hlt,zur _ (hm.q i),hlt,hlt,f9,i+1,hlt,O,O,λj hj=>?_⟩,λhge j hj=>by rw[x9 O]⟩⟩;by_cases e:j=i;subst e;rw[x9 rfl,x9 O];rfl;rw[x8 e];by_cases h:j<i;rw[x9 h,x9 O];rw[x8 h,x8 O]
theorem zus (l:List Int) (x:Int):(AV.seq .ey (l.length+1) λi=>if i<l.length then d9 (l.getD i 0)else((List.replicate 1 (d9 0)).set 0 (d9 x)).getD (i - l.length) AV.any)=mM (l++[x]):=by
 unfold mM;have hl:(l++[x]).length=l.length+1:=ap;rw[hl];congr 1;funext i;by_cases f:i<l.length;rw[x9 f,x9 O,x7,x7,ya O];rw[x8 f];by_cases e:i<l.length+1;rw[x9 e];grind;rw[x8 e,x7,y9 co];rfl
section
variable (m:i8) (c:Int) (id:Int)
def vw:=(aZ m c id).fst.eA.length=0/\(aZ m c id).fst.aa.length=0/\(aZ m c id).fst.a6.length=0/\(aZ m c id).fst.lT.length=0
def NF:=bC m c ↑m.a6.length !=0
def qti:Nat:=(m.a6.getD c.toNat []).length+1
variable (x3:Nat)
def AW:List Int:=(aZ m c id).fst.a6.getD x3 []
end
theorem aev (id:Int) (f:dk m):KN 239 [vM m,d9 c,d9 id] (.av [vMq m c id,d9 (aZ m c id).2]):=by
 refine Kn (vEq m 42) func239 (aH ↑m.a6.length/\KN 189 [AV.mc zm (aj m),d9 c,d9 ↑m.a6.length] (d9 (bC m c ↑m.a6.length))/\Z (NF m c) (vw m c id/\bC m c ↑m.a6.length=(aZ m c id).snd) (Z (pw id) (vw m c id/\2=(aZ m c id).snd) (KN 253 [AV.mc zm (aj m),d9 id] (AV.bool (nt m id))/\Z (nt m id) (vw m c id/\30=(aZ m c id).snd) ((KF (185:Nat) [AV.mc zm (aj m)] (AV.mc zm (AV.agg [AV.own (0:Nat) m.eA.length,AV.own (1:Nat) m.aa.length,AV.own (2:Nat) m.a6.length,AV.own (3:Nat) m.lT.length])) [ar.row (3:TypeId) ey m.eA.length λi=>d9 (m.eA.getD i (0:Int)),ar.row (3:TypeId) ey m.aa.length λi=>d9 (m.aa.getD i (0:Int)),ar.row (29:TypeId) ey m.a6.length λi=>gW (m.a6.getD i []),ar.row (3:TypeId) ey m.lT.length λi=>d9 (m.lT.getD i (0:Int))])/\af c m.a6.length/\c.toNat<m.a6.length/\1*ey.size<=16777216/\(0<1/\↑(qti m c)*↑(8:Nat)<=(140737488355328:Int)/\qti m c<=9223372036854775807)/\1<=1/\af c m.a6.length/\c.toNat<m.a6.length/\m.eA.length<=m.eA.length/\m.aa.length<=m.aa.length/\m.a6.length<=m.a6.length/\m.lT.length<=m.lT.length/\((m.eA.length=(aZ m c id).fst.eA.length/\∀ i:Nat,i<m.eA.length->d9 (m.eA.getD i 0)=d9 ((aZ m c id).fst.eA.getD i 0))/\(m.aa.length=(aZ m c id).fst.aa.length/\∀ i:Nat,i<m.aa.length->d9 (m.aa.getD i 0)=d9 ((aZ m c id).fst.aa.getD i 0))/\(m.a6.length=(aZ m c id).fst.a6.length/\∀ i:Nat,i<m.a6.length->(if i=c.toNat then aq (AV.seq ey (qti m c) λi=>if i<(m.a6.getD c.toNat []).length then d9 ((m.a6.getD c.toNat []).getD i 0)else((List.replicate 1 (d9 0)).set 0 (aq (aq (d9 id)))).getD (i - (m.a6.getD c.toNat []).length) AV.any)else gW (m.a6.getD i []))=if i=c.toNat then mM (AW m c id i)else gW (AW m c id i))/\m.lT.length=(aZ m c id).fst.lT.length/\∀ i:Nat,i<m.lT.length->d9 (m.lT.getD i 0)=d9 ((aZ m c id).fst.lT.getD i 0))/\0=(aZ m c id).snd)))) ?_;try delta Z aH vw NF pw qti AW
 simp only[SZ];have s3:=f.a6;have bad:∀ n:Int,aZ m c id=(du,n) ->((aZ m c id).1.eA.length=0/\(aZ m c id).1.aa.length=0/\(aZ m c id).1.a6.length=0/\(aZ m c id).1.lT.length=0)/\n=(aZ m c id).2:=λn h=>by rw[h];exact⟨⟨rfl,rfl,rfl,rfl⟩,rfl⟩
 refine⟨O,TC m c _ f,λh=>bad _ (by unfold aZ;rw[x9 h]),λh1=>⟨λh=>bad _ (by unfold aZ;rw[x8 (by simp[h1]),x9 h]),λh2=>⟨aik m id f,λh=>bad _ (by unfold aZ;rw[x8 (by simp[h1]),x8 h2,x9 h]),λh3=>?_⟩⟩⟩;have e:aZ m c id=({m with a6:=m.a6.set c.toNat (m.a6.getD c.toNat []++[id])},0):=by unfold aZ;rw[x8 (by simp[h1]),x8 h2,x8 (by simp[h3])]
 have hc:=(kM h1).2;have k:=f.q c.toNat;rw[e];refine⟨age m f,hc,O,am,⟨am,O,O⟩,hc,O,⟨⟨rfl,λ_ _=>rfl⟩,⟨rfl,λ_ _=>rfl⟩,⟨ap,λj hj=>?_⟩,rfl,λ_ _=>rfl⟩,rfl⟩;by_cases ej:j=c.toNat;rw[x9 ej,x9 ej,zus,ej,x7 (l:=m.a6.set _ _),List.getElem?_set_self O];rfl;rw[x8 ej,x8 ej,x7 (l:=m.a6.set _ _),k9 (λe=>ej e.symm),<- x7]
theorem zjt {v:Value} {n:Nat} {f g:Nat ->AV} (h:au w F v (.seq .ey n f)) (J:∀ i,i<n ->(f i).b8=true/\(g i).b8=true/\∀ u,au w F u (f i) ->au w F u (g i)):au w F v (.seq .ey n g):=by
 cases h with
 |cH=>exact .cH _ _ _ _
 |seq U o n cap sh f V R Q N K=>
  refine .seq U o _ _ .ey _ V R Q N λi x j m=>?_;have e:j=0:=by have :j<1:=m;omega
  subst e;have⟨H,E,y⟩:=J i x;have k:=K i x 0 m;unfold z6 eC at k ⊢;rw[H]at k;rw[E];exact y _ k
theorem zut {v:Value} {l:List Int} (h:au w F v (gW l)):au w F v (a8 l):=by
 unfold gW at h;show au w F v (.seq .ey l.length λi=> d9 (l.getD i 0));generalize l.length=n at h ⊢;cases h with
 |ik=>exact .cH _ _ _ _
 |bD g o n sh f m k j e=>exact .seq g o _ _ .ey _ m k (xm _) j e
theorem zuu {v:Value} {l:List Int} (h:au w F v (mM l)):au w F v (a8 l):=
 zjt h λi f=>⟨by rw[x9 f];rfl,rfl,λu e=>by rw[x9 f]at e;exact e⟩
theorem ah4:lz:=λm c id y=>by
 refine(aev m c id y).imp λw F v h=>dx.jT (r:=[_,_]) (r':=[_,_]) (by rfl) (λj k u f=>?_) h
 match j,k with
 |1,_=>exact f
 |0,_=>
  cases f with
  |mc E sh x hs s=>
   refine .mc E _ _ hs λj k=>?_
   have h:=s j k
   match j,k with
   |0,_ |1,_ |3,_=>exact h
   |2,_=>
    refine zjt h λi _=>?_
    by_cases e:i=c.toNat
    rw[x9 e];exact⟨rfl,rfl,λu f=>zuu f⟩
    rw[x8 e];exact⟨rfl,rfl,λu f=>zut f⟩
end
end Go.Proofs.S25
