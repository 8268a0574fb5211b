import Derived.Test.YtgcpdfihjmmggaaGreatDoorXzk
namespace Go.Proofs.S25
open Go Go.AV
open Go.IntKind renaming i64 -> j6
open Go.AV.ex (ey)
noncomputable section
variable (e:Ev) (B:bR) {α:Type} (l:List α) {p:ai} {m:i8} {d:MDo} {b:Int} {s:ja} {T:i5} {t:i5} {i:aK} {a:Int} {c:Int}
theorem aCs {l A B:List Int} {r q:Option Int} (h:jC l) (E:∀ u,q=some u ->u∉A) (h2:∀ u,r=some u ->u∉B):
 B.foldl c9 (sgR (A.foldl c9 (sgR l r)) q)=A.foldl c9 (sgR (B.foldl c9 (sgR l q)) r):=by
 have⟨y,a2⟩:=axo h r;have⟨x,b2⟩:=axi A _ y;have⟨m,c2⟩:=axo x q;have⟨k,d2⟩:=axi B _ m;have⟨j,e2⟩:=axo h q;have⟨i,f2⟩:=axi B _ j;have⟨f,g2⟩:=axo i r;have⟨e,k2⟩:=axi A _ f;refine xL k e λx=>?_;rw[d2,c2,b2,a2,k2,g2,f2,e2];grind
theorem aA4 {d e:Option (Nat×α)} (h:∀ x y,d=some x ->e=some y ->x.1≠y.1):apzq (apzq l d) e=apzq (apzq l e) d:=by
 match d,e with
 |none,_=>rfl
 |some _,none=>rfl
 |some (i,v),some (j,w)=>exact List.set_comm _ _ (h _ _ rfl rfl)
theorem az1 (d:α) {e:Option (Nat×α)} {j:Nat} (h:∀ x,e=some x ->x.1≠j):(apzq l e).getD j d=l.getD j d:=by
 match e with
 |none=>rfl
 |some (i,v)=>exact gN (h _ rfl)
structure aC7 (d e:MDo):Prop where
 v:∀ x y,d.v=some x ->e.v=some y ->x.1≠y.1
 o:∀ x y,d.o=some x ->e.o=some y ->x.1≠y.1
 q:∀ x y,d.q=some x ->e.q=some y ->x.1≠y.1
 r:∀ u,e.r=some u ->u∉d.A
 r':∀ u,d.r=some u ->u∉e.A
theorem aDl {e:MDo} (h:aC7 d e) (f:jC m.lT):nl (nl m d) e=nl (nl m e) d:=by
 show(⟨apzq (apzq m.eA d.v) e.v,apzq (apzq m.aa d.o) e.o,apzq (apzq m.a6 d.q) e.q,e.A.foldl c9 (sgR (d.A.foldl c9 (sgR m.lT d.r)) e.r)⟩:i8)=⟨apzq (apzq m.eA e.v) d.v,apzq (apzq m.aa e.o) d.o,apzq (apzq m.a6 e.q) d.q,d.A.foldl c9 (sgR (e.A.foldl c9 (sgR m.lT e.r)) d.r)⟩;rw[aA4 _ h.v,aA4 _ h.o,aA4 _ h.q,aCs f h.r h.r']
def usV (i:aK):Prop:=i.op=8∨i.op=10∨i.op=11∨i.op=12∨i.op=14
def usO (t:i5) (i:aK):Option Nat:=if i.op=15∨i.op=16∨i.op=17 then some i.ii.toNat else if i.op=18/\t.gH≠1 then some i.n.toNat else none
def usC (t:i5) (i:aK):Option Nat:=if i.op=19∨i.op=20∨(i.op=18/\(t.gH=0∨t.gH=1))then some i.ii.toNat else none
structure Off (d:MDo) (t:i5) (i:aK):Prop where
 v:usV i ->∀ x,d.v=some x ->x.1≠i.ii.toNat
 o:∀ x y,d.o=some x ->usO t i=some y ->x.1≠y
 q:∀ x y,d.q=some x ->usC t i=some y ->x.1≠y
theorem ayt (h:Off d t i) (f:usV i):rdV (nl m d) i=rdV m i:=az1 _ _ λx e=>h.v f x e
theorem aym (h:Off d t i) {y:Nat} (e:usO t i=some y):(nl m d).aa.getD y 0=m.aa.getD y 0:=az1 _ _ λx f=>h.o x y f e
theorem aBy (h:Off d t i) (e:usC t i=some i.ii.toNat):quV (nl m d) i=quV m i:=az1 _ _ λx f=>h.q x _ f e
theorem aDc (h:Off d t i):mdo (nl m d) t i=mdo m t i:=by
 have v:usV i ->rdV (nl m d) i=rdV m i:=ayt h;have o:=λy=>aym (m:=m) h (y:=y);have q:=aBy (m:=m) h;unfold mdo;congr 1;by_cases f:i.op=10;rw[x9 f,x9 f];rw[x8 f,x8 f];by_cases e:i.op=11;rw[x9 e,x9 e,v (by unfold usV;omega)];rw[x8 e,x8 e];by_cases j:i.op=12;rw[v (by unfold usV;omega)];rw[x8 (λq=>j q.1),x8 (λq=>j q.1)];by_cases f:i.op=17;rw[o i.ii.toNat (by unfold usO;rw[x9 O])];simp[f];by_cases f:i.op=18/\t.gH=0;rw[x9 f,x9 f,q (by unfold usC;rw[x9 O])];rw[x8 f,x8 f];by_cases e:i.op=19;rw[x9 e,x9 e,q (by unfold usC;rw[x9 O])];rw[x8 e,x8 e];by_cases e:i.op=19;rw[x9 e,x9 e,q (by unfold usC;rw[x9 O])];rw[x8 e,x8 e];by_cases j:i.op=20;rw[x9 j,x9 j,q (by unfold usC;rw[x9 O])];rw[x8 j,x8 j]
theorem aD0 (h:Off d t i):pi (nl m d) t i=pi m t i:=by
 unfold pi;by_cases e:usV i;rw[ayt h e];unfold usV at e;simp[show i.op≠17 by omega];unfold usV at e;have f:¬ (i.op=8∨i.op=14∨i.op=10∨i.op=11):=by omega
 have n2:¬ i.op=12:=by omega
 rw[x8 f,x8 f,x8 n2,x8 n2];by_cases j:i.op=17;rw[aym h (by unfold usO;rw[x9 (by omega)])];rw[x8 j,x8 j]
theorem aCu {s':ja} {d:MDo} {t:i5} {i:aK} (h:Off d t i) (e:s'.l5=nl s.l5 d) (G:mA s.l5 i) (M:atl s.l5 i) (k:ca s'.l5) (hl:s'.l5.eA.length=s.l5.eA.length/\s'.l5.aa.length=s.l5.aa.length):m8 s' t i=m8 s t i:=by
 have rd:∀ s:ja,ca s.l5=true ->0<=i.ii/\i.ii<s.l5.eA.length ->(fo s.l5 i.ii).1=rdV s.l5 i:=λs k h=>by
  unfold fo;rw[x8 (by rw[zd k h];simp)];rfl
 unfold m8;by_cases f:i.op=17;have o:=aym (m:=s.l5) h (y:=i.ii.toNat) (by unfold usO;rw[x9 (by omega)]);have x:=M.o (by omega);have :iJ s'.l5 i.ii=iJ s.l5 i.ii:=by
  unfold iJ;rw[zd k (by omega),zd G.form x,e,o]
 rw[this];simp[f];by_cases u:i.op=19∨i.op=20;have q:=aBy (m:=s.l5) h (by unfold usC;rw[x9 (by omega)]);have :nK s'.l5 i.ii=nK s.l5 i.ii:=by unfold nK;rw[e];exact yt (λl:List Int=>(l.length:Int)) q
 rw[this];rcases u with h |h<;>simp[h];by_cases j:usV i;have x:=G.v (by unfold usV at j;omega);have :(fo s'.l5 i.ii).1=(fo s.l5 i.ii).1:=by
  rw[rd _ k (by omega),rd _ G.form x,e,ayt h j]
 have a:bz s' t i (iP t i)=bz s t i (iP t i):=by unfold bz;rw[this]
 rw[a];unfold usV at j;simp[f,show i.op≠19 by omega,show i.op≠20 by omega];unfold usV at j;have a:i.op=9∨i.op=13∨i.op=15∨i.op=16∨i.op=18∨i.op=21∨i.op=22:=by have :=G.ok.op;omega
 rcases a with a |a |a |a |a |a |a<;>simp[a];simp[bz,a]
theorem aD3 {s':ja} {d:MDo} {t:i5} {i:aK} (h:Off d t i) (e:s'.l5=nl s.l5 d) (G:mA s.l5 i) (M:atl s.l5 i) (y:ca s'.l5) (hl:s'.l5.eA.length=s.l5.eA.length/\s'.l5.aa.length=s.l5.aa.length) (E:i.op≠22) (K:d.r≠some t.id) (mO:jC s.l5.lT)
 (f:z20 s t i):z20 s' t i=true:=by
 have rd:∀ s:ja,ca s.l5=true ->0<=i.ii/\i.ii<s.l5.eA.length ->(fo s.l5 i.ii).1=rdV s.l5 i:=λs y h=>by
  unfold fo;rw[x8 (by rw[zd y h];simp)];rfl
 have u:∀ x:Int,0<=x/\x<s.l5.aa.length ->usO t i=some x.toNat ->iJ s'.l5 x=iJ s.l5 x:=λx F J=>by
  unfold iJ;rw[zd y O,zd G.form F,e,aym h J]
 unfold z20 at f ⊢;by_cases m:i.op=14;have H:usV i:=by unfold usV;omega
 have x:=G.v O;rw[x9 m]at f ⊢;rw[rd _ y O,e,ayt h H,<- rd _ G.form x];exact f;rw[x8 m]at f ⊢;by_cases k:i.op=15;rw[x9 k]at f ⊢;rw[u _ (M.o O) (by unfold usO;rw[x9 O])];exact f;rw[x8 k]at f ⊢;by_cases j:i.op=18;rw[x9 j]at f ⊢;by_cases p1:t.gH=1;rw[x9 p1]at f ⊢;rw[zcu,e];show t.id∈d.A.foldl c9 (sgR s.l5.lT d.r);have⟨Q,N⟩:=axo mO d.r;exact((axi _ _ Q).2 _).2 (.inr ((N _).2 ⟨zcu.1 f,K⟩));rw[x8 p1]at f ⊢;by_cases p2:t.gH=2;rw[x9 p2]at f ⊢;rw[u _ (M.n j) (by unfold usO;rw[x8 O,x9 ⟨j,p1⟩])];exact f;rw[x8 p2];rw[x8 j,x8 E]
theorem aCl {α:Type} (f:α ->Int):∀ {l m:List α},l.Pairwise (λa b=>f a<f b) ->m.Pairwise (λa b=>f a<f b) ->(∀ x,x∈l↔x∈m) ->l=m
 | [],[],_,_,_=>rfl
 | [],y::m,_,_,h=>absurd ((h y).2 ap) ap
 |x::l,[],_,_,h=>absurd ((h x).1 ap) ap
 |x::l,y::m,hl,F,h=>by
  have⟨k,E⟩:=j7.1 hl
  have⟨j,u⟩:=j7.1 F
  have e:x=y:=by
   rcases xv.1 ((h x).1 ap)with q |q;exact q;rcases xv.1 ((h y).2 ap)with r |r;exact r.symm;have :=j x q;have :=k y r;omega
  subst e;rw[aCl f E u λz=>?_];constructor;intro i;rcases xv.1 ((h z).1 (by simp[i]))with q |q;have :=k z i;rw[q]at this;omega;exact q;intro i;rcases xv.1 ((h z).2 (by simp[i]))with q |q;have :=j z i;rw[q]at this;omega;exact q
theorem aC0 {l:List i5} (V:∀ j,j<l.length ->z5e p b l j):l.Pairwise λa b=>a.id<b.id:=by
 rw[wh];intro i j f e h;have :=UP V j i h e;simpa [x7,f,e]using this
def bf (s:ja) (id:Int):bR:=sC s.ae id
theorem axh (e:cQ p b s) {k:Nat} (f:k<s.ab.length):bf s (s.ab.getD k ao).id=s.ae.getD k az:=by
 unfold bf sC;rw[zry e,zg0 (zm6 e) f,x9 O];rfl
theorem az4 (e:cQ p b s) {id:Int} (h:aS s.ab id<0):bf s id=⟨id,0,[]⟩:=by
 unfold bf sC;rw[zry e,x8 O]
theorem aC9 {t:ja} (hs:cQ p b s) (f:cQ p b t) (F:s.l5=t.l5) (h:∀ U,U∈s.ab↔U∈t.ab) (u:∀ id,bf s id=bf t id):s=t:=by
 have e:s.ab=t.ab:=aCl (·.id) (aC0 (zm6 hs)) (aC0 (zm6 f)) h;have m:=(z12.1 hs).2.1;have j:=(z12.1 f).2.1;have H:s.ae=t.ae:=by
  apply j5 (by rw[m,j,e]);intro k y x;have E:=axh hs (k:=k) O;have i:=axh f (k:=k) O;rw[<- e,<- u,E]at i;simpa [x7,y,x]using i
 cases s;cases t;simp_all
theorem ay2 {l:List i5} (V:∀ j,j<l.length ->z5e p b l j) {U:i5} (h:U∈l):0<=aS l U.id/\l.getD (aS l U.id).toNat ao=U:=by
 have⟨j,f,e⟩:=yq h;have g:l.getD j ao=U:=by rw[x7,xe f];exact e
 have :=zg0 V f;rw[g]at this;rw[this];exact⟨O,g⟩
theorem aDg {l:List i5} {id:Int} (h:0<=aS l id):l.getD (aS l id).toNat ao∈l:=AC (nL h).1
theorem aAv {k:Nat} {T:i5} {B:bR} {m:i8} (x:cQ p b s) (E:k<s.ab.length) (f:T.id=(s.ab.getD k ao).id) (u:cQ p b ⟨s.ab.set k T,m,s.ae.set k B⟩=true):
 (∀ U,U∈s.ab.set k T↔U=T∨(U∈s.ab/\U.id≠T.id))/\∀ id,bf ⟨s.ab.set k T,m,s.ae.set k B⟩ id=if id=T.id then B else bf s id:=by
 have Q:=(z12.1 x).2.1;have⟨N,K,J⟩:=aur (T:=T) (zm6 x) E;have ids:∀ j,((s.ab.set k T).getD j ao).id=(s.ab.getD j ao).id:=ao1 f;refine⟨λU=>⟨λh=>by rw[f];exact N U h,λh=>?_⟩,λid=>?_⟩;rcases h with rfl | ⟨h,F⟩;exact K;exact J U h (by rw[<- f];exact F);by_cases h:0<=aS s.ab id;have⟨y,i⟩:=nL h;have a:=axh x y;rw[i]at a;have H:=axh u (k:=(aS s.ab id).toNat) (by show _<(s.ab.set k T).length;rw[yy];exact y);have e:((⟨s.ab.set k T,m,s.ae.set k B⟩:ja).ab.getD (aS s.ab id).toNat ao).id=id:=(ids _).trans i;rw[e]at H;rw[H,a];show(s.ae.set k B).getD _ az=_;by_cases q:k=(aS s.ab id).toNat;rw[<- q,gS O,x9 (by rw[f,q,i])];rw[gN q,x8 λr=>q ?_];have :=zg0 (zm6 x) E;rw[<- f,<- r]at this;omega;have F:aS (s.ab.set k T) id<0:=by
  refine Int.not_le.1 λq=>h ?_;have⟨y,i⟩:=nL q;rw[ids]at i;exact zm2 (by simpa using y) i
 rw[az4 x O,az4 u F,x8 λr=>h ?_];rw[r,f];exact zm2 E rfl
def sl (m:i8) (v:Int):Int×Int:=if(eY B v).2.2 then((eY B v).1,(eY B v).2.1)else((fo m v).1,-1)
def nop:MDo:=⟨none,none,none,none,[]⟩
def rt (i:aK):Prop:=i.op=8∨i.op=14∨i.op=9
instance (i:aK):Decidable (rt i):=by unfold rt;infer_instance
def aD (p:ai) (m:i8) (T:i5) (B:bR) (a:Int):MDo:=
 if a<0 then {nop with v:=some ((B.bO.getD 0 cc).var.toNat,(B.bO.getD 0 cc).val)}else if rt (zg p T)then nop else mdo m T (zg p T)
def aR (p:ai) (m:i8) (T:i5) (B:bR):Int:=
 if(zg p T).op=8∨(zg p T).op=14 then(sl B m (zg p T).ii).1 else if(zg p T).op=9 then 0 else pi m T (zg p T)
def aT (p:ai) (b:Int) (m:i8) (T:i5) (B:bR) (a:Int):i5:=if a<0 then T else(cd p b T (aR p m T B)).1
def aB (p:ai) (T:i5) (B:bR) (a:Int):bR:=
 if a<0 then⟨B.ay,B.first+1,B.bO.drop 1⟩else if(zg p T).op=9 then⟨B.ay,B.first,B.bO++[⟨(zg p T).ii,bp T (zg p T).b⟩]⟩else B
def aN (p:ai) (b:Int) (T:i5) (a:Int):Option i5:=if ¬ a<0/\(zg p T).op=21 then some (ba p b (eU T) (zg p T).ii (bp T (zg p T).b)).1 else none
def kS (s:ja) (a:Int):i5:=s.ab.getD (bb s a) ao
def lx (s:ja) (a:Int):bR:=s.ae.getD (bb s a) az
structure AtS (p:ai) (b:Int) (s:ja) (a:Int) (s':ja):Prop where
 l5:s'.l5=nl s.l5 (aD p s.l5 (kS s a) (lx s a) a)
 ab:∀ U,U∈s'.ab↔U=aT p b s.l5 (kS s a) (lx s a) a∨(U∈s.ab/\U.id≠aX a)∨aN p b (kS s a) a=some U
 buf:∀ id,bf s' id=if id=aX a then aB p (kS s a) (lx s a) a else bf s id
 id:(aT p b s.l5 (kS s a) (lx s a) a).id=aX a
 new:∀ N,aN p b (kS s a) a=some N ->aS s.ab N.id<0
theorem aC5 (k:Nat) (d:α):l.set k (l.getD k d)=l:=by
 apply j5 ap;intro i h f;rw[List.getElem_set];split;rename_i e;subst e;simp[x7,f];rfl
theorem axc (hp:bI p) (hT:cw s) (hb:aV p b=0) (I:ul p b s) (h:aQ (cL p s) a):AtS p b s a (zt p b s a).1:=by
 have I':=(u4 hp hT hb I h).2.1;have hv:=I.val;obtain⟨v1,v2,v3⟩:=z12.1 hv;have V:=zm6 hv;have U:=apr V;have hf':=z47.2 (sN.1 v1).2.1;obtain⟨⟨h0,f1,f2⟩,hc⟩:=tsx (T:=kS s a) (B:=lx s a) hp hT hb I h rfl rfl rfl;have eb:s.ae.set (bb s a) (lx s a)=s.ae:=aC5 _ _ _;have ht:kS s a∈s.ab:=AC f1;rcases hc with⟨hn,_,_,GO⟩ | ⟨hn,h1,hc⟩
 have et:s.ab.set (bb s a) (kS s a)=s.ab:=aC5 _ _ _;rw[<- et]at GO;rw[GO]at I' ⊢;obtain⟨r1,r2⟩:=aAv hv f1 (T:=kS s a) rfl I'.val;have eT:aT p b s.l5 (kS s a) (lx s a) a=kS s a:=by unfold aT;rw[x9 hn]
 have eN:aN p b (kS s a) a=none:=by unfold aN;rw[x8 (λh=>h.1 hn)]
 refine⟨by unfold aD;rw[x9 hn];rfl,λU=>?_,λid=>?_,by rw[eT,f2],λN h=>by rw[eN]at h;cases h⟩;rw[eT,eN,<- f2,r1 U];simp;rw[r2 id,f2];unfold aB;rw[x9 hn];have ea:aX a=a:=by unfold aX;rw[x8 hn]
 have htk:=hT.ok (bb s a);obtain⟨g1,g2,g3,g4,g5,g6⟩:=zhu hp htk v1 h1;have g1:mA s.l5 (i6 p (kS s a)):=g1;have g2:zg p (kS s a)=i6 p (kS s a):=g2;have hvt:=(V _ f1).1;have i1:∀ r,wr r=r ->(cd p b (kS s a) r).1.id=(kS s a).id:=λr hr=>(ao5 hvt g5 hr).1;have eT:aT p b s.l5 (kS s a) (lx s a) a=(cd p b (kS s a) (aR p s.l5 (kS s a) (lx s a))).1:=by unfold aT;rw[x8 hn]
 have one:rt (zg p (kS s a)) ->wr (zf p s a).1.read=(zf p s a).1.read ->aR p s.l5 (kS s a) (lx s a)=(zf p s a).1.read ->(zt p b s a).1=⟨s.ab.set (bb s a) (cd p b (kS s a) (zf p s a).1.read).1,s.l5,s.ae.set (bb s a) (aB p (kS s a) (lx s a) a)⟩ ->AtS p b s a (zt p b s a).1:=λo hr er GO=>by
  rw[er]at eT;rw[GO]at I' ⊢;obtain⟨r1,r2⟩:=aAv hv f1 (T:=(cd p b (kS s a) (zf p s a).1.read).1) (i1 _ hr) I'.val;have eN:aN p b (kS s a) a=none:=by unfold aN;rw[x8 (λh=>by have :=h.2;unfold rt at o;omega)]
  refine⟨by unfold aD;rw[x8 hn,x9 o];rfl,λU=>?_,λid=>?_,by rw[eT,i1 _ hr,f2],λN h=>by rw[eN]at h;cases h⟩;rw[eT,eN,<- f2,r1 U,i1 _ hr];simp;rw[r2 id,i1 _ hr,f2]
 rcases hc with⟨h8,h3,hr,GO⟩ | ⟨h9,h5,_,_,_,GO⟩ | ⟨⟨h8,h14,h9⟩,r2',o1,o2,z1,_,e1,e2,GO⟩
 refine one (by unfold rt;omega) hr (by unfold aR;rw[x9 h8,h3];rfl) ?_;unfold aB;rw[GO,x8 hn,x8 (by omega),eb];refine one (by unfold rt;omega) (by rw[h5];decide) (by unfold aR;rw[x8 (by omega),x9 h9,h5]) ?_;unfold aB;rw[GO,x8 hn,x9 h9];have hs:=aum hv;obtain⟨r1,r2,r3,r4⟩:=NG o1;have eE:=e1.symm.trans e2;rw[ea]at f2;rw[GO]at I' ⊢;obtain⟨_,_,_,_,_,S1,S2,ES⟩:=anr z1;obtain⟨w1,w2,w3,w4⟩:=aue (a:=a) hp (oP.1 hs).2.2 S1;have P:jM p:=⟨hp,(l6 hb).1⟩;have M:=aul v1 (vi P (g3.wf htk) (sZ (mD.1 hvt).2 g5).2.1);have N:(kS s a).id∈kw s.l5 ->(kS s a).gH=1:=λh=>by
  obtain⟨u,hu,e1,e2⟩:=I.rch.wait _ h;have :=(U _ ht).2.2 u hu e1;rw[<- this];exact e2
 have cf:=aD7 (s:=bN s) (t:=kS s a) (i:=i6 p (kS s a)) g1 M (U _ ht).1 g3.aw (λy hy=>(g3.ic y hy).1) (g3.ph.imp id λq=>⟨q.1,q.2.2.1⟩) g4 (I.rch.own _ ht) N (by rw[<- g2];exact o2) (by rw[<- g2];exact h9);rw[<- g2]at cf;have cf:cY s.l5 (kS s a) (zg p (kS s a)) (m8 (bN s) (kS s a) (zg p (kS s a)))=(nl s.l5 (mdo s.l5 (kS s a) (zg p (kS s a))),pi s.l5 (kS s a) (zg p (kS s a)),0):=cf;have eX:cW p (bN s) a=(nl s.l5 (mdo s.l5 (kS s a) (zg p (kS s a))),pi s.l5 (kS s a) (zg p (kS s a)),0):=by unfold cW;rw[eE,r3,r2'];exact cf
 have no:¬ rt (zg p (kS s a)):=by unfold rt;intro h;rcases h with h |h |h;exact h8 h;exact h14 h;exact h9 h
 have eD:aD p s.l5 (kS s a) (lx s a) a=mdo s.l5 (kS s a) (zg p (kS s a)):=by unfold aD;rw[x8 hn,x8 no]
 have eR:aR p s.l5 (kS s a) (lx s a)=pi s.l5 (kS s a) (zg p (kS s a)):=by unfold aR;rw[x8 (λh=>h.elim h8 h14),x8 h9]
 have eN:(gY p b (bN s) a).1=aT p b s.l5 (kS s a) (lx s a) a:=by unfold gY;rw[r2',eX,eT,eR]
 have idT:(aT p b s.l5 (kS s a) (lx s a) a).id=a:=by
  rw[<- eN];have hr:wr (pi s.l5 (kS s a) (zg p (kS s a)))=_:=(aob (by unfold gY at S2;rw[r2',eX]at S2;exact S2)).2.2;unfold gY;rw[r2',eX,i1 _ hr,f2]
 have SP:∀ x,x∈(jg p b (bN s) a).1.ab↔x∈s.ab∨aN p b (kS s a) a=some x:=λx=>by
  unfold jg aN;by_cases hk:(bP p (bN s) a).kind=16;have hk':=hk;rw[eE]at hk';obtain⟨q1,q2⟩:=z9s hk';rw[x9 hk,x9 ⟨hn,q1⟩];have S1:=S1;unfold jg at S1;rw[x9 hk]at S1;unfold eH at S1 ⊢;split at S1;exact absurd S1 (by decide);split at S1;exact absurd S1 (by decide);rename_i j1 j2;rw[x8 j1,x8 j2];show x∈gB s.ab _ _↔_;rw[aug,eE,q2,r3,r2',xq];exact⟨λh=>h.elim (λh=> .inr h.symm) .inl,λh=>h.elim .inr λh=> .inl h.symm⟩;rw[x8 hk,x8 λh=>hk ?_];simp;rfl;rw[eE];unfold m8;have q:=h.2;simp[q]
 have new:∀ N,aN p b (kS s a) a=some N ->aS s.ab N.id<0:=λN h=>by
  unfold aN at h;split at h;rename_i q;have hk:(bP p (bN s) a).kind=16:=by rw[eE];unfold m8;have q:=q.2;simp[q]
  have o:(bP p (bN s) a).ii=eU (kS s a):=by rw[eE];exact(z9s (by rw[<- eE];exact hk)).2
  unfold jg at S1;rw[x9 hk]at S1;unfold eH at S1;split at S1;exact absurd S1 (by decide);rename_i j;split at S1;exact absurd S1 (by decide);rename_i j2;have j2:=aod (ye.1 j2);rw[o,r3,r2']at j2;cases h;rw[j2,<- o];exact Int.not_le.1 j;cases h
 obtain⟨h1',h2'⟩:=nL (w4 (by show 0<=aS s.ab a;rw[<- ea];exact h0));obtain⟨m1,m2,m3⟩:=aur (T:=(gY p b (bN s) a).1) w3 h1';rw[h2']at m1 m3;have aA6:(da p b (bN s) a).1.ab=(jg p b (bN s) a).1.ab.set (aS (jg p b (bN s) a).1.ab a).toNat (gY p b (bN s) a).1:=by rw[ES]
 have TH:∀ U,U∈(da p b (bN s) a).1.ab↔U=aT p b s.l5 (kS s a) (lx s a) a∨(U∈s.ab/\U.id≠aX a)∨aN p b (kS s a) a=some U:=λx=>by
  rw[aA6,<- eN,ea];constructor;intro h;rcases m1 x h with q | ⟨q,q'⟩;exact .inl q;rcases(SP x).1 q with q |q;exact .inr (.inl ⟨q,q'⟩);exact .inr (.inr q);rintro(q | ⟨q,q'⟩ |q);rw[q];exact m2;exact m3 x ((SP x).2 (.inl q)) q';refine m3 x ((SP x).2 (.inr q)) λr=>?_;have :=new x q;rw[r,<- ea]at this;omega
 refine⟨by rw[eD];show(da p b (bN s) a).1.l5=_;rw[ES];show(jg p b (bN s) a).1.l5=_;rw[w2,eX],TH,λid=>?_,by rw[idT,ea],new⟩;have eB:(if id=aX a then aB p (kS s a) (lx s a) a else bf s id)=bf s id:=by
  split;rename_i q;unfold aB;rw[x8 hn,x8 (show ¬ (zg p (kS s a)).op=9 from h9)];have :=axh hv f1;rw[show(s.ab.getD (bb s a) ao).id=a from f2]at this;rw[q,ea,this];rfl;rfl
 rw[eB];by_cases q:0<=aS (da p b (bN s) a).1.ab id;obtain⟨j1,j2⟩:=nL q;have a1:=axh I'.val (k:=(aS (da p b (bN s) a).1.ab id).toNat) j1;have e1:((rX (da p b (bN s) a).1 s.ae).ab.getD (aS (da p b (bN s) a).1.ab id).toNat ao).id=id:=j2;rw[e1]at a1;rw[show bf (rX (da p b (bN s) a).1 s.ae,(zf p s a).1,0).1 id=_ from a1];show(eJ _ _ _).getD _ _=_;rw[z9l _ _ _ (xm _) _ j1,j2];rfl;rw[show bf (rX (da p b (bN s) a).1 s.ae,(zf p s a).1,0).1 id=_ from az4 I'.val (by show aS (da p b (bN s) a).1.ab id<0;omega)];refine(az4 hv (Int.not_le.1 λr=>q ?_)).symm;obtain⟨j1,j2⟩:=nL r;by_cases e:id=a;have :=(ay2 (oP.1 (aum I'.val)).2.2 ((TH _).2 (.inl rfl))).1;rw[idT]at this;rw[e];exact this;have :=(ay2 (oP.1 (aum I'.val)).2.2 ((TH _).2 (.inr (.inl ⟨AC j1,by rw[j2,ea];exact e⟩)))).1;rw[j2]at this;exact this
def pm (p:ai) (m:i8) (T:i5) (B:bR) (a:Int):Ev:=
 if a<0 then⟨a,B.first,4,(B.bO.getD 0 cc).var,-1,B.first,0,0,(B.bO.getD 0 cc).val⟩
 else if(zg p T).op=8∨(zg p T).op=14 then⟨T.id,T.io,if(zg p T).op=14 then 8 else 1,(zg p T).ii,-1,(sl B m (zg p T).ii).2,(zg p T).ord,(sl B m (zg p T).ii).1,0⟩
 else if(zg p T).op=9 then⟨T.id,T.io,3,(zg p T).ii,-1,B.first+B.bO.length,(zg p T).ord,0,bp T (zg p T).b⟩
 else m8 ⟨[],m,[]⟩ T (zg p T)
theorem aC8 (h:a<0):m6 (aX a)=a:=by unfold m6 aX;rw[x9 h,x8 O];omega
theorem ax7 (e:0<=aS s.ab (aX a)):(kS s a).id=aX a/\bb s a<s.ab.length:=⟨(nL e).2,(nL e).1⟩
theorem aCj (f:¬ a<0) (e:0<=aS s.ab (aX a)):bg p (bN s) a=(kS s a,zg p (kS s a),cm p (kS s a)):=by
 have h:aX a=a:=by unfold aX;rw[x8 f]
 unfold bg kS bb;rw[h]at e ⊢;rw[x8 (show ¬ aS (bN s).ab a<0 from Int.not_lt.2 e)];rfl
theorem aDh (e:cQ p 32 s) (f:0<=aS s.ab (aX a)):zf p s a=if a<0 then cg s (bb s a)else bU p s (bb s a):=by
 unfold zf zu;rw[x8 (by rw[e];decide),x8 O];rfl
theorem ax3 (m:cQ p 32 s) (k:0<=aS s.ab (aX a)) (h:if a<0 then 0<(lx s a).bO.length else cm p (kS s a)=true):zf p s a=(pm p s.l5 (kS s a) (lx s a) a,true):=by
 rw[aDh m k];have⟨f,_⟩:=ax7 k;unfold pm;by_cases e:a<0;rw[x9 e]at h ⊢;rw[x9 e];unfold cg;dsimp only;rw[x8 (show ¬ (s.ae.getD (bb s a) az).bO.length=0 from Nat.ne_of_gt h),show(s.ab.getD (bb s a) ao).id=aX a from f,aC8 e];rfl;rw[x8 e]at h ⊢;rw[x8 e];by_cases i:(zg p (kS s a)).op=8∨(zg p (kS s a)).op=14;rw[x9 i];exact zhn h i;rw[x8 i];by_cases j:(zg p (kS s a)).op=9;rw[x9 j];exact zqr h j;rw[x8 j];have u:aX a=a:=by unfold aX;rw[x8 e]
 rw[show bU p s (bb s a)=_ from zqs h (λq=>i (.inl q)) (λq=>i (.inr q)) j];rw[show(s.ab.getD (bb s a) ao).id=a from f.trans u];unfold bA;rw[x8 (by rw[aum m];decide),aCj e k,x8 (show ¬ cm p (kS s a)=false by rw[h];decide)];rfl
def LEn (p:ai) (s:ja) (T:i5) (B:bR) (a:Int):Prop:=
 if a<0 then 0<B.bO.length else cm p T=true/\
  (((zg p T).op=8∨(zg p T).op=9)∨((zg p T).op=14/\((app (zg p T).fn (sl B s.l5 (zg p T).ii).1 (bp T (zg p T).b)).2=0/\(app (zg p T).fn (sl B s.l5 (zg p T).ii).1 (bp T (zg p T).b)).1≠0))∨
   (¬ rt (zg p T)/\B.bO.length=0/\z20 (bN s) T (zg p T)=true/\((zg p T).op=22 ->(bf s (bp T (zg p T).b)).bO.length=0)))
theorem ax0 (m:bI p) (u:cw s) (k:cQ p 32 s):aQ (cL p s) a=true↔0<=aS s.ab (aX a)/\LEn p s (kS s a) (lx s a) a:=by
 have e:aQ (cL p s) a=true↔ka p s a=true:=by
  refine⟨ak8 k,λh=>?_⟩;rw[zcu,<- zrz k,z59];unfold ka at h;rw[xa,xd]at h;have⟨f1,y⟩:=nL h.1;refine List.mem_flatMap.2 ⟨_,yl.2 f1, ?_⟩;unfold vG;have hE:ka p s a=true:=by unfold ka;rw[xa,xd];exact h
  rw[y];by_cases hn:a<0;rw[aC8 hn,hE];simp;have ea:aX a=a:=by unfold aX;rw[x8 hn]
  rw[ea,hE];simp
 rw[e];unfold ka;rw[xa,xd];refine and_congr_right λh0=>?_;have⟨hid,F⟩:=ax7 h0;unfold LEn;by_cases hn:a<0;rw[x9 hn,x9 hn,xd];exact Iff.rfl;rw[x8 hn,x8 hn];show fu p s (bb s a) (cX p (bN s))=true↔_;have ea:aX a=a:=by unfold aX;rw[x8 hn]
 by_cases i:cm p (kS s a)=true;case neg=>
  have hb':cm p (kS s a)=false:=by simpa using i
  rw[abe (show cm p (s.ab.getD (bb s a) ao)=false from hb')];exact⟨λh=>(by cases h),λh=>absurd h.1 i⟩
 have ho:=(zhu m (u.ok (bb s a)) (z12.1 k).1 i).1.ok.op;rw[<- (zhu m (u.ok (bb s a)) (z12.1 k).1 i).2.1]at ho;have ho:8<=(zg p (kS s a)).op/\(zg p (kS s a)).op<=22:=ho;by_cases h89:(zg p (kS s a)).op=8∨(zg p (kS s a)).op=9;rw[agk i h89];simp[i,h89];by_cases f:(zg p (kS s a)).op=14;rw[ag4 i f];rw[xa,xo,gz];constructor;exact λh=>⟨i, .inr (.inl ⟨f,h⟩)⟩;rintro⟨_,h |h |h⟩;exact absurd h h89;exact h.2;exact absurd (.inr (.inl f)) h.1;have no:¬ rt (zg p (kS s a)):=λh=>h.elim (λh=>h89 (.inl h)) λh=>h.elim f λh=>h89 (.inr h);have on:aQ (cX p (bN s)) (s.ab.getD (bb s a) ao).id=true↔z20 (bN s) (kS s a) (zg p (kS s a))=true:=by
  rw[show(s.ab.getD (bb s a) ao).id=a from hid.trans ea,zro (aum k)];unfold cl c5;rw[aCj hn h0];exact⟨λh=>h.2,λh=>⟨i,h⟩⟩
 have hd:((nN (zg p (s.ab.getD (bb s a) ao)).op&&decide (0<(s.ae.getD (bb s a) az).bO.length)) || !aQ (cX p (bN s)) (s.ab.getD (bb s a) ao).id)=true↔¬ ((lx s a).bO.length=0/\z20 (bN s) (kS s a) (zg p (kS s a))=true):=by
  show((nN (zg p (kS s a)).op&&decide (0<(lx s a).bO.length)) || !aQ (cX p (bN s)) (s.ab.getD (bb s a) ao).id)=true↔_;rw[akx ho h89 f,wc,xk,xd,xi,<- jy,on];constructor;rintro(h |h) ⟨q1,x⟩;omega;exact h x;intro h;by_cases q:(lx s a).bO.length=0;exact .inr λr=>h ⟨q,r⟩;exact .inl O
 by_cases hd':(lx s a).bO.length=0/\z20 (bN s) (kS s a) (zg p (kS s a))=true;case neg=>
  rw[ajv i h89 f (hd.2 hd')];refine⟨λh=>(by cases h), ?_⟩;rintro⟨_,h |h |h⟩;exact absurd h h89;exact absurd h.1 f;exact absurd ⟨h.2.1,h.2.2.1⟩ hd'
 have hd2:=λq=>hd.1 q hd';by_cases j:(zg p (kS s a)).op=22;rw[aet i h89 f hd2 j];have ov:0<=aS s.ab (bp (kS s a) (zg p (kS s a)).b):=by
  have :=hd'.2;unfold z20 at this;rw[x8 f,x8 O,x8 O,x9 j]at this;unfold xT at this;rw[xa,xd]at this;exact this.1
 have E:bf s (bp (kS s a) (zg p (kS s a)).b)=s.ae.getD (db s.ae (bp (kS s a) (zg p (kS s a)).b)).toNat az:=by
  unfold bf sC;rw[x9 (by rw[zry k];exact ov)]
 rw[E,xa,xd,xo];constructor;exact λh=>⟨i, .inr (.inr ⟨no,hd'.1,hd'.2,λ_=>h.2⟩)⟩;rintro⟨_,h |h |h⟩;exact absurd h h89;exact absurd h.1 f;exact⟨by rw[zry k];exact ov,h.2.2.2 j⟩;rw[akg i h89 f hd2 j];simp[i,no,hd'.1,hd'.2,j]
structure Acc where
 kind:Int
 id:Int
 sub:Int
 wt:Bool
 deriving DecidableEq,Inhabited
def axj:Acc:=⟨4,aX e.aC,e.entry,(rg e).write⟩
def ms:List Acc:=
 if(rg e).access=4∨((rg e).write=false/\(rg e).access=1/\0<=e.entry)then [axj e]else if(rg e).access=0 then []else
  (if e.kind=12 then [⟨2,e.k7,0,true⟩]else [])++([⟨(rg e).access,e.ii,0,(rg e).write⟩]++if e.kind=4 then [axj e]else [])
def ax8 (a b:Ev):Bool:=(ms a).any λx=>[false,true].any λw=>(x.wt || w)&&(ms b).contains {x with wt:=w}
def crE (a b:Ev):Bool:=(a.kind==16 || a.kind==17)&&(a.ii==aX b.aC || (a.kind==16&&(b.kind==17&&a.ii==b.ii)))
def drE (a b:Ev):Bool:=!(decide (a.aC<0) || b.aC !=m6 a.aC)&&!(a.kind==1 || (a.kind==2 || (a.kind==3 || a.kind==8)))
def axa (a b:Ev):Bool:=pp a&&(pp b&&(a.aC==b.aC || (crE a b || (crE b a || (drE a b || (drE b a || ax8 a b))))))
structure awx (a b:Ev):Prop where
 ag:a.aC≠b.aC
 cr:crE a b=false
 cr':crE b a=false
 dr:drE a b=false
 dr':drE b a=false
 cf:∀ x∈ms a,∀ y∈ms b,x.kind=y.kind ->x.id=y.id ->x.sub=y.sub ->x.wt=false/\y.wt=false
theorem aC4 {a b:Ev} (F:pp a) (E:pp b) (h:axa a b=false):awx a b:=by
 unfold axa at h;rw[F,E,wc,wc]at h;simp only[xg,xp]at h;have⟨Q,N,K,J,H,e⟩:=h;refine⟨Q,N,K,J,H,λx u y m j i f=>?_⟩;unfold ax8 at e;rw[List.any_eq_false]at e;have :=e x u;rw[List.any_eq_true]at this;have k:¬ ((x.wt || y.wt)=true):=λq=>this ⟨y.wt,by cases y.wt<;>simp,by
  rw[xa];refine⟨q, ?_⟩;rw[kg];have⟨_,_,_,_⟩:=x;have⟨_,_,_,_⟩:=y;simp at j i f;subst j i f;exact m⟩
 simpa using k
theorem awx.symm {a b:Ev} (h:awx a b):awx b a:=⟨h.ag.symm,h.cr',h.cr,h.dr',h.dr,λx f y e k j i=>(h.cf y e x f k.symm j.symm i.symm).symm⟩
structure ScA (m:i8) (T:i5) (i:aK) (e:Ev):Prop where
 v:usV i ->∃ w,(⟨1,i.ii,0,w⟩:Acc)∈ms e/\((mdo m T i).v≠none ->w=true)
 o:∀ y,usO T i=some y ->∃ z:Int,0<=z/\y=z.toNat/\(⟨2,z,0,true⟩:Acc)∈ms e
 c:∀ y,usC T i=some y ->y=i.ii.toNat/\(⟨3,i.ii,0,true⟩:Acc)∈ms e
theorem t8 (a x k o m n d r w:Int):rg ⟨a,x,k,o,m,n,d,r,w⟩=m5.getD (k - 1).toNat m7:=rfl
theorem aCe (G:mA s.l5 i) (M:atl s.l5 i) (j:¬ rt i):ScA s.l5 T i (m8 s T i):=by
 have rd:usV i ->(fo s.l5 i.ii).1=rdV s.l5 i:=λh=>by
  unfold fo;rw[x8 (by rw[zd G.form (G.v (by unfold usV at h;omega))];simp)];rfl
 have k:=G.ok.op;unfold rt at j;rcases zbg k with e |e |e |e |e |e |e |e |e |e |e |e |e |e |e;omega;omega;refine⟨λ_=>⟨true, ?_,λ_=>rfl⟩,λy f=>by simp[usO,e]at f,λy f=>by simp[usC,e]at f⟩;simp[m8,bz,iP,e,ms,t8,m5];refine⟨λ_=>⟨true, ?_,λ_=>rfl⟩,λy f=>by simp[usO,e]at f,λy f=>by simp[usC,e]at f⟩;simp[m8,bz,iP,e,ms,t8,m5];refine⟨λh=>?_,λy f=>by simp[usO,e]at f,λy f=>by simp[usC,e]at f⟩;have r:=rd h;by_cases q:rdV s.l5 i=bp T i.b;refine⟨true, ?_,λ_=>rfl⟩;simp[m8,bz,iP,e,r,q,ms,t8,m5];refine⟨false, ?_,λh=>absurd ?_ h⟩;simp[m8,bz,iP,e,r,q,ms,t8,m5];simp[mdo,e,q];exact⟨λh=>by unfold usV at h;omega,λy f=>by simp[usO,e]at f,λy f=>by simp[usC,e]at f⟩;omega;refine⟨λh=>by unfold usV at h;omega,λy f=>?_,λy f=>by simp[usC,e]at f⟩;refine⟨i.ii,(M.o O).1,by simp[usO,e]at f;exact f.symm, ?_⟩;simp[m8,iP,e,ms,t8,m5];refine⟨λh=>by unfold usV at h;omega,λy f=>?_,λy f=>by simp[usC,e]at f⟩;refine⟨i.ii,(M.o O).1,by simp[usO,e]at f;exact f.symm, ?_⟩;simp[m8,iP,e,ms,t8,m5];refine⟨λh=>by unfold usV at h;omega,λy f=>?_,λy f=>by simp[usC,e]at f⟩;refine⟨i.ii,(M.o O).1,by simp[usO,e]at f;exact f.symm, ?_⟩;simp[m8,iP,e,ms,t8,m5];refine⟨λh=>by unfold usV at h;omega,λy f=>?_,λy f=>?_⟩;have p1:T.gH≠1:=λq=>by simp[usO,e,q]at f
 refine⟨i.n,(M.n e).1,by simp[usO,e,p1]at f;exact f.symm, ?_⟩;by_cases p0:T.gH=0;simp[m8,im,iP,e,p0,ms,t8,m5];simp[m8,im,iP,e,p0,p1,ms,t8,m5];have p1:T.gH=0∨T.gH=1:=we λq=>by simp[usC,e]at f;exact q f.1
 refine⟨by simp[usC,e]at f;exact f.2.symm, ?_⟩;rcases p1 with p |p<;>simp[m8,im,iP,e,p,ms,t8,m5];refine⟨λh=>by unfold usV at h;omega,λy f=>by simp[usO,e]at f,λy f=>⟨by simp[usC,e]at f;exact f.symm, ?_⟩⟩;simp[m8,iP,e,ms,t8,m5];refine⟨λh=>by unfold usV at h;omega,λy f=>by simp[usO,e]at f,λy f=>⟨by simp[usC,e]at f;exact f.symm, ?_⟩⟩;simp[m8,iP,e,ms,t8,m5];exact⟨λh=>by unfold usV at h;omega,λy f=>by simp[usO,e]at f,λy f=>by simp[usC,e]at f⟩;exact⟨λh=>by unfold usV at h;omega,λy f=>by simp[usO,e]at f,λy f=>by simp[usC,e]at f⟩
theorem aD8 (m:i8) (T:i5) (i:aK):(∀ x,(mdo m T i).v=some x ->usV i/\x.1=i.ii.toNat)/\(∀ x,(mdo m T i).o=some x ->usO T i=some x.1)/\(∀ x,(mdo m T i).q=some x ->usC T i=some x.1/\x.1=i.ii.toNat):=by
 refine⟨λx h=>?_,λx h=>?_,λx h=>?_⟩;simp only[mdo]at h;unfold usV;split at h;cases h;exact⟨O,rfl⟩;split at h;cases h;exact⟨O,rfl⟩;split at h;cases h;exact⟨O,rfl⟩;cases h;simp only[mdo]at h;unfold usO;split at h;cases h;rw[x9 O];split at h;cases h;rw[x9 O];split at h;cases h;rw[x8 O,x9 O];split at h;rename_i q;cases h;rw[x8 O,x9 q];cases h;simp only[mdo]at h;unfold usC;split at h;cases h;exact⟨by rw[x9 O],rfl⟩;split at h;cases h;exact⟨by rw[x9 O],rfl⟩;split at h;cases h;exact⟨by rw[x9 O],rfl⟩;cases h
theorem azi (j:cQ p b s) {U:i5} (h:U∈s.ab) (e:U.id=aX a):0<=aS s.ab (aX a)/\kS s a=U:=by
 have⟨i,f⟩:=ay2 (zm6 j) h;rw[e]at i f;exact⟨i,f⟩
theorem az6 (e:cQ p b s) (i:0<=aS s.ab (aX a)):lx s a=bf s (aX a):=by
 have⟨h,f⟩:=ax7 i;have :=axh e f;rw[show(s.ab.getD (bb s a) ao).id=aX a from h]at this;exact this.symm
theorem aCw (e:0<=aS s.ab (aX a)):kS s a∈s.ab:=AC (ax7 e).2
theorem aDa (s:ja) (t:i5) (i:aK) (e:Ev):(bz s t i e).aC=e.aC:=by
 unfold bz;dsimp only;repeat' split
 all_goals rfl
theorem aD6 (s:ja) (t:i5) (i:aK):(m8 s t i).aC=t.id:=by
 grind [m8,im,aDa,iP]
theorem aya (f:0<=aS s.ab (aX a)):(pm p s.l5 (kS s a) (lx s a) a).aC=a:=by
 have h:=(ax7 f).1;unfold pm;by_cases e:a<0;rw[x9 e];have i:aX a=a:=by unfold aX;rw[x8 e]
 rw[i]at h;rw[x8 e];split;exact h;split;exact h;rw[aD6];exact h
structure Enb (p:ai) (s:ja) (a:Int):Prop where
 pb:cm p (kS s a)=true
 G:mA s.l5 (zg p (kS s a))
 M:atl s.l5 (zg p (kS s a))
theorem enb (i:bI p) (j:cw s) (k:cQ p b s) (u:¬ a<0) (h:LEn p s (kS s a) (lx s a) a):Enb p s a:=by
 unfold LEn at h;rw[x8 u]at h;have f:=(z12.1 k).1;have⟨F,E,y,J,x,H⟩:=zhu i (j.ok (bb s a)) f h.1;have P:jM p:=⟨i,zu2 f⟩;have m:=sZ (mD.1 (anx h.1).2).2 x;have M:=aul f (vi P (y.wf (j.ok (bb s a))) m.2.1);have e:zg p (kS s a)=i6 p (s.ab.getD (bb s a) ao):=E;exact⟨h.1,by rw[e];exact F,by rw[e];exact M⟩
structure AgA (d:MDo) (e:Ev):Prop where
 v:∀ x,d.v=some x ->∃ z:Int,0<=z/\x.1=z.toNat/\(⟨1,z,0,true⟩:Acc)∈ms e
 o:∀ x,d.o=some x ->∃ z:Int,0<=z/\x.1=z.toNat/\(⟨2,z,0,true⟩:Acc)∈ms e
 q:∀ x,d.q=some x ->∃ z:Int,0<=z/\x.1=z.toNat/\(⟨3,z,0,true⟩:Acc)∈ms e
theorem aA5 (U:bI p) (X:cw s) (u:cQ p b s) (Y:0<=aS s.ab (aX a)) (h:LEn p s (kS s a) (lx s a) a):AgA (aD p s.l5 (kS s a) (lx s a) a) (pm p s.l5 (kS s a) (lx s a) a):=by
 unfold aD pm;by_cases i:a<0;rw[x9 i,x9 i];unfold LEn at h;rw[x9 i]at h;have V:=(ax7 Y).2;have en:=((z21 _).1 (nM.1 ((z12.1 u).2.2 _ V).2).1).2 0 h;unfold mv at en;simp only[xa,xd]at en;refine⟨λx e=>?_,λx e=>(by cases e),λx e=>(by cases e)⟩;cases e;exact⟨_,en.1.1.1,rfl,by simp[ms,t8,m5];exact .inl rfl⟩;have E:=enb U X u i h;rw[x8 i,x8 i];by_cases o:rt (zg p (kS s a));rw[x9 o];exact⟨λx e=>(by cases e),λx e=>(by cases e),λx e=>(by cases e)⟩;have R:¬ ((zg p (kS s a)).op=8∨(zg p (kS s a)).op=14):=λq=>o (q.elim .inl λq=> .inr (.inl q));have Q:¬ (zg p (kS s a)).op=9:=λq=>o (.inr (.inr q));rw[x8 o,x8 R,x8 Q];have A:=aCe (s:=⟨[],s.l5,[]⟩) (T:=kS s a) E.G E.M o;have⟨N,K,J⟩:=aD8 s.l5 (kS s a) (zg p (kS s a));refine⟨λx e=>?_,λx e=>?_,λx e=>?_⟩;have⟨f,k⟩:=N x e;have⟨w,m,j⟩:=A.v f;have j:=j (by show(mdo s.l5 _ _).v≠none;rw[e];simp);subst j;exact⟨_,(E.G.v (by unfold usV at f;omega)).1,k,m⟩;have⟨z,H,F,y⟩:=A.o _ (K x e);exact⟨z,H,F,y⟩;have⟨f,k⟩:=J x e;have⟨m,j⟩:=A.c _ f;refine⟨_,(E.G.ok.q ?_).1,k,j⟩;unfold usC at f;split at f;omega;cases f
theorem aD5 {e f:Ev} {T:i5} {i:aK} (A:AgA d e) (B:ScA m T i f) (G:mA m i) (h:awx e f):Off d T i:=by
 refine⟨λhv x hx q=>?_,λx y hx j q=>?_,λx y hx j q=>?_⟩;have⟨z,E,z2,k⟩:=A.v x hx;have⟨w,u,_⟩:=B.v hv;have :=(G.v (by unfold usV at hv;omega)).1;have :=(h.cf _ k _ u rfl (show z=i.ii by omega) rfl).1;cases this;have⟨z,E,z2,k⟩:=A.o x hx;have⟨w,u,F,w3⟩:=B.o y j;have :=(h.cf _ k _ w3 rfl (show z=w by omega) rfl).1;cases this;have⟨z,E,z2,k⟩:=A.q x hx;have⟨u,F⟩:=B.c y j;have :0<=i.ii:=(G.ok.q (by
  unfold usC at j;split at j;omega;cases j)).1
 have :=(h.cf _ k _ F rfl (show z=i.ii by omega) rfl).1;cases this
theorem aCc {f:i8} {v:Int} (h:ec p m) (k:ec p f) (e:∀ n:Nat,v=n ->f.eA.getD n 0=m.eA.getD n 0):(fo f v).1=(fo m v).1:=by
 have⟨_,x,j,_⟩:=sN.1 h;have⟨_,u,i,_⟩:=sN.1 k;have E:=z47.2 x;have y:=z47.2 u;unfold fo bC;rw[E,y,j,i];by_cases q:v<0∨(p.eA.length:Int)<=v;simp[q];simp[q];have :=e v.toNat O;simpa using this
theorem aCx {f:i8} {C:bR} {v:Int} (h:ec p m) (i:ec p f) (e:(eY C v).2.2=false ->∀ n:Nat,v=n ->f.eA.getD n 0=m.eA.getD n 0):sl C f v=sl C m v:=by
 unfold sl;cases q:(eY C v).2.2 with
 |true=>rfl
 |false=>rw[aCc h i (e q)]
structure aD9 (p:ai) (b:Int) (s s1:ja) (c:Int):Prop where
 fd:0<=aS s1.ab (aX c)
 th:kS s1 c=kS s c
 bu:lx s1 c=lx s c
 en:LEn p s1 (kS s c) (lx s c) c
 lab:pm p s1.l5 (kS s c) (lx s c) c=pm p s.l5 (kS s c) (lx s c) c
 d:aD p s1.l5 (kS s c) (lx s c) c=aD p s.l5 (kS s c) (lx s c) c
 t:aT p b s1.l5 (kS s c) (lx s c) c=aT p b s.l5 (kS s c) (lx s c) c
theorem aBx (h:¬ a<0):aX a=a:=by unfold aX;rw[x8 h]
theorem stay {f:ja} {a c:Int} (hp:bI p) (hT:cw s) (I:ul p b s) (I1:ul p b f) (S:AtS p b s a f) (Y:0<=aS s.ab (aX a)/\LEn p s (kS s a) (lx s a) a) (K:0<=aS s.ab (aX c)/\LEn p s (kS s c) (lx s c) c)
 (Z:awx (pm p s.l5 (kS s a) (lx s a) a) (pm p s.l5 (kS s c) (lx s c) c)) (hd:aX a≠aX c):aD9 p b s f c:=by
 have V:=I.val;have u:=I1.val;have⟨v1,v2,v3⟩:=z12.1 V;have⟨w1,_,_⟩:=z12.1 u;have H:=(ax7 K.1).1;have hm:kS s c∈f.ab:=(S.ab _).2 (.inr (.inl ⟨aCw K.1,by rw[H];exact hd.symm⟩));have⟨N,U⟩:=azi u hm H;have R:lx f c=lx s c:=by rw[az6 u N,az6 V K.1,S.buf,x8 hd.symm]
 have A:=aA5 hp hT V Y.1 Y.2;have⟨_,f1,l1,l2,l3⟩:=sN.1 v1;have⟨_,g1,k1,k2,k3⟩:=sN.1 w1;by_cases e:c<0;exact⟨N,U,R,by have :=K.2;unfold LEn at this ⊢;rw[x9 e]at this ⊢;exact this,by unfold pm;rw[x9 e,x9 e],by unfold aD;rw[x9 e,x9 e],by unfold aT;rw[x9 e,x9 e]⟩;have E:=enb hp hT V e K.2;have ho:=E.G.ok.op;have hl:=K.2;unfold LEn at hl;rw[x8 e]at hl;by_cases i:(zg p (kS s c)).op=8∨(zg p (kS s c)).op=14;have o:rt (zg p (kS s c)):=i.elim .inl λh=> .inr (.inl h);have eS:sl (lx s c) f.l5 (zg p (kS s c)).ii=sl (lx s c) s.l5 (zg p (kS s c)).ii:=by
  refine aCx v1 w1 λhf n a3=>?_;rw[S.l5];show(apzq s.l5.eA _).getD n 0=_;refine az1 _ _ λx hx q=>?_;have⟨z,z1,z2,z3⟩:=A.v x hx;have a2:(⟨1,(zg p (kS s c)).ii,0,false⟩:Acc)∈ms (pm p s.l5 (kS s c) (lx s c) c):=by
   have e2:(sl (lx s c) s.l5 (zg p (kS s c)).ii).2= -1:=by unfold sl;rw[hf];rfl
   unfold pm;rw[x8 e,x9 i,e2];by_cases Q:(zg p (kS s c)).op=14;rw[x9 Q];simp[ms,t8,m5];rw[x8 Q];simp[ms,t8,m5]
  have :=(Z.cf _ z3 _ a2 rfl (show z=(zg p (kS s c)).ii by omega) rfl).1;cases this
 refine⟨N,U,R, ?_,by unfold pm;rw[x8 e,x8 e,x9 i,x9 i,eS],by unfold aD;rw[x8 e,x8 e,x9 o,x9 o],by unfold aT aR;rw[x8 e,x8 e,x9 i,x9 i,eS]⟩;unfold LEn;rw[x8 e];refine⟨hl.1, ?_⟩;rw[eS];rcases hl.2 with h |h |h;exact .inl h;exact .inr (.inl h);exact absurd o h.1;by_cases m:(zg p (kS s c)).op=9;have o:rt (zg p (kS s c)):= .inr (.inr m);refine⟨N,U,R, ?_,by unfold pm;rw[x8 e,x8 e,x8 i,x8 i,x9 m,x9 m],by unfold aD;rw[x8 e,x8 e,x9 o,x9 o],by unfold aT aR;rw[x8 e,x8 e,x8 i,x8 i,x9 m,x9 m]⟩;unfold LEn;rw[x8 e];exact⟨hl.1, .inl (.inr m)⟩;have F:¬ rt (zg p (kS s c)):=λh=>h.elim (λh=>i (.inl h)) λh=>h.elim (λh=>i (.inr h)) m;have el:pm p s.l5 (kS s c) (lx s c) c=m8 (bN s) (kS s c) (zg p (kS s c)):=by unfold pm;rw[x8 e,x8 i,x8 m];rfl
 have a1:pm p f.l5 (kS s c) (lx s c) c=m8 (bN f) (kS s c) (zg p (kS s c)):=by unfold pm;rw[x8 e,x8 i,x8 m];rfl
 have B:=aCe (s:=bN s) (T:=kS s c) E.G E.M F;rw[<- el]at B;have O:=aD5 A B E.G Z;have y:(bN f).l5.eA.length=(bN s).l5.eA.length/\(bN f).l5.aa.length=(bN s).l5.aa.length:=⟨by show f.l5.eA.length=s.l5.eA.length;omega,by show f.l5.aa.length=s.l5.aa.length;omega⟩;have eL:m8 (bN f) (kS s c) (zg p (kS s c))=m8 (bN s) (kS s c) (zg p (kS s c)):=aCu (s:=bN s) (s':=bN f) O S.l5 E.G E.M (z47.2 g1) y;have dl:aD p f.l5 (kS s c) (lx s c) c=aD p s.l5 (kS s c) (lx s c) c:=by
  unfold aD;rw[x8 e,x8 e,x8 F,x8 F,S.l5,aDc O]
 have tl:aT p b f.l5 (kS s c) (lx s c) c=aT p b s.l5 (kS s c) (lx s c) c:=by
  unfold aT aR;rw[x8 e,x8 e,x8 i,x8 i,x8 m,x8 m,S.l5,aD0 O]
 refine⟨N,U,R, ?_,by rw[a1,el,eL],dl,tl⟩;unfold LEn;rw[x8 e];refine⟨hl.1, .inr (.inr ?_)⟩;rcases hl.2 with h |h |h;exact absurd (h.elim .inl λh=> .inr (.inr h)) F;exact absurd (.inr (.inl h.1)) F;have⟨_,h0,X,hj⟩:=h;by_cases j:(zg p (kS s c)).op=22;have hr:bp (kS s c) (zg p (kS s c)).b≠aX a:=λq=>by
  have :=Z.cr';rw[el]at this;unfold crE at this;rw[aya Y.1]at this;have k:(m8 (bN s) (kS s c) (zg p (kS s c))).kind=17/\(m8 (bN s) (kS s c) (zg p (kS s c))).ii=bp (kS s c) (zg p (kS s c)).b:=by unfold m8;simp[j]
  rw[k.1,k.2,q]at this;simp at this
 have J:xT s.ab (bp (kS s c) (zg p (kS s c)).b)=true:=by
  unfold z20 at X;rw[x8 (by omega),x8 (by omega),x8 (by omega),x9 j]at X;exact X
 unfold xT at J;rw[xa,xd]at J;have⟨r1,r2⟩:=ay2 (zm6 u) ((S.ab _).2 (.inr (.inl ⟨aDg J.1,by rw[(nL J.1).2];exact hr⟩)));rw[(nL J.1).2]at r1 r2;refine⟨F,h0, ?_,λ_=>?_⟩;unfold z20;rw[x8 (by omega),x8 (by omega),x8 (by omega),x9 j];unfold xT;rw[xa,xd];refine⟨r1, ?_⟩;show((f.ab.getD (aS f.ab _).toNat ao).ip==2 || (f.ab.getD (aS f.ab _).toNat ao).ip==3)=true;rw[r2];exact J.2;rw[S.buf,x8 hr];exact hj j;refine⟨F,h0,aD3 (s:=bN s) (s':=bN f) O S.l5 E.G E.M (z47.2 g1) y j ?_ f1.mO X,λh=>absurd h j⟩;unfold aD;split;intro q;cases q;split;intro q;cases q;intro q;simp only[mdo]at q;split at q;injection q with q;rw[(ax7 Y.1).1,H]at q;exact hd q;cases q
def q7:bR:=⟨B.ay,B.first+1,B.bO.drop 1⟩
theorem aCa {B:bR} (h:0<B.bO.length) (v:Int):∀ k,k<=B.bO.length - 1 ->mB (q7 B) v k=if(mB B v (k+1)).2.2=true/\(mB B v (k+1)).2.1≠B.first then mB B v (k+1)else(0,0,false)
 |0,_=>by
  unfold mB mB
  split<;>simp
 |k+1,m=>by
  have f:=aCa h v k (by omega)
  have e:(q7 B).bO.getD k cc=B.bO.getD (k+1) cc:=by
   show(B.bO.drop 1).getD k cc=_;rw[x7,ww,<- x7,Nat.add_comm]
  have j:mB (q7 B) v (k+1)=if((q7 B).bO.getD k cc).var=v then(((q7 B).bO.getD k cc).val,(q7 B).first+k,true)else mB (q7 B) v k:=rfl
  have i:mB B v (k+1+1)=if(B.bO.getD (k+1) cc).var=v then((B.bO.getD (k+1) cc).val,B.first+((k+1:Nat):Int),true)else mB B v (k+1):=rfl
  rw[j,i,e,f];by_cases q:(B.bO.getD (k+1) cc).var=v;rw[x9 q,x9 q];have :B.first+((k+1:Nat):Int)≠B.first:=by omega
  rw[x9 ⟨rfl,this⟩];show(_,B.first+1+(k:Int),true)=_;rw[show B.first+1+(k:Int)=B.first+((k+1:Nat):Int) by omega];rw[x8 q,x8 q]
theorem aCn {B:bR} {v:Int}:∀ k,(mB B v k).2.2=false ->∀ j,j<k ->(B.bO.getD j cc).var≠v
 |0,_,j,f=>O
 |k+1,h,j,f=>by
  unfold mB at h
  split at h
  cases h
  rename_i q
  by_cases e:j=k
  subst e;exact q
  exact aCn k h j (O)
theorem aCq {f o:Int} (k:f<0) (j:¬ o<0) (m:aX f=aX o) (i:LEn p s (kS s f) (lx s f) f) (h2:LEn p s (kS s o) (lx s o) o):rt (zg p (kS s o)):=by
 unfold LEn at i h2;rw[x9 k]at i;rw[x8 j]at h2;have e:lx s f=lx s o:=by unfold lx bb;rw[m]
 rw[e]at i;rcases h2.2 with h |h |h;exact h.elim .inl λh=> .inr (.inr h);exact .inr (.inl h.1);exact absurd i (by have :=h.2.1;omega)
theorem aCv {f:i8} {B:bR} {v:Int} (H:bQ B) (F:bQ (q7 B)) (i:0<B.bO.length) (x:ec p m) (u:ec p f) (E:∀ n:Nat,((B.bO.getD 0 cc).var.toNat:Nat)≠n ->f.eA.getD n 0=m.eA.getD n 0) (J:0<=(B.bO.getD 0 cc).var)
 (y:(eY B v).2.2=true ->(eY B v).2.1≠B.first):sl (q7 B) f v=sl B m v:=by
 have k:eY B v=mB B v B.bO.length:=zhl B v H;have hl:(q7 B).bO.length=B.bO.length - 1:=by show(B.bO.drop 1).length=_;rw[wn]
 have K:eY (q7 B) v=mB (q7 B) v (B.bO.length - 1):=by rw[zhl _ v F,hl]
 have j:=aCa i v (B.bO.length - 1) (xm _);rw[show B.bO.length - 1+1=B.bO.length by omega,<- k]at j;unfold sl;rw[K,j];cases q:(eY B v).2.2 with
 |true=>rw[x9 (show true=true/\(eY B v).2.1≠B.first from⟨rfl,y q⟩),q,x9 rfl,x9 rfl]
 |false=>
  have :¬ (false=true/\(eY B v).2.1≠B.first):=λh=>by cases h.1
  rw[x8 this,x8 ap,x8 ap];have z:=aCn (B:=B) (v:=v) B.bO.length (by rw[<- k];exact q) 0 i;rw[aCc x u λn e=>E n (by omega)]
structure Comm (p:ai) (b:Int) (s:ja) (a c:Int):Prop where
 en:aQ (cL p (zt p b s a).1) c=true
 en':aQ (cL p (zt p b s c).1) a=true
 lab:zf p (zt p b s a).1 c=zf p s c
 aCf:zf p (zt p b s c).1 a=zf p s a
 eq:(zt p b (zt p b s a).1 c).1=(zt p b (zt p b s c).1 a).1
theorem Comm.symm (h:Comm p b s a c):Comm p b s c a:=⟨h.en',h.en,h.aCf,h.lab,h.eq.symm⟩
theorem ax9 (h:LEn p s (kS s a) (lx s a) a):if a<0 then 0<(lx s a).bO.length else cm p (kS s a)=true:=by
 unfold LEn at h;split;rename_i q;rw[x9 q]at h;exact h;rename_i q;rw[x8 q]at h;exact h.1
theorem aDk (E:bI p) (K:cw s) (Y:cw (zt p b s a).1) (X:cw (zt p b s c).1) (Q:aV p b=0) (I:ul p b s) (ha:aQ (cL p s) a) (hc:aQ (cL p s) c)
 (hd:aX a≠aX c) (hi:awx (zf p s a).1 (zf p s c).1):Comm p b s a c:=by
 have H:=rc I.val;have I1:=(u4 E K Q I ha).2.1;have I2:=(u4 E K Q I hc).2.1;have S1:=axc E K Q I ha;have Z:=axc E K Q I hc;have f:=(ax0 E K H).1 ha;have e:=(ax0 E K H).1 hc;have la:=ax3 H f.1 (ax9 f.2);have lc:=ax3 H e.1 (ax9 e.2);rw[la,lc]at hi;have m:=stay E K I I1 S1 f e hi hd;have j:=stay E K I I2 Z e f hi.symm hd.symm;have e1:aQ (cL p (zt p b s a).1) c=true:=(ax0 E Y (rc I1.val)).2 ⟨m.fd,by rw[m.th,m.bu];exact m.en⟩;have e2:aQ (cL p (zt p b s c).1) a=true:=(ax0 E X (rc I2.val)).2 ⟨j.fd,by rw[j.th,j.bu];exact j.en⟩;have X1:=axc E Y Q I1 e1;have X2:=axc E X Q I2 e2;have J1:=(u4 E Y Q I1 e1).2.1;have J2:=(u4 E X Q I2 e2).2.1;refine⟨e1,e2, ?_, ?_, ?_⟩;rw[ax3 (rc I1.val) m.fd (by rw[m.th,m.bu];exact ax9 e.2),m.th,m.bu,m.lab,lc];rw[ax3 (rc I2.val) j.fd (by rw[j.th,j.bu];exact ax9 f.2),j.th,j.bu,j.lab,la];have A:=aA5 E K I.val f.1 f.2;have C:=aA5 E K I.val e.1 e.2;have F:=(sN.1 (z12.1 I.val).1).2.1;have M:aC7 (aD p s.l5 (kS s a) (lx s a) a) (aD p s.l5 (kS s c) (lx s c) c):=by
  have R:∀ {k:Int} {x y:Nat},(∃ z:Int,0<=z/\x=z.toNat/\(⟨k,z,0,true⟩:Acc)∈ms (pm p s.l5 (kS s a) (lx s a) a)) ->(∃ z:Int,0<=z/\y=z.toNat/\(⟨k,z,0,true⟩:Acc)∈ms (pm p s.l5 (kS s c) (lx s c) c)) ->x≠y:=fun {k x y} ⟨z,z1,z2,z3⟩ ⟨w,w1,w2,w3⟩ q=>by
   have :=(hi.cf _ z3 _ w3 rfl (show z=w by omega) rfl).1;cases this
  have sg:∀ (x y:Int),0<=aS s.ab (aX x)/\LEn p s (kS s x) (lx s x) x ->∀ u,(aD p s.l5 (kS s x) (lx s x) x).r=some u ->u∉(aD p s.l5 (kS s y) (lx s y) y).A:=λx y U u N J=>by
   have us:u∈s.l5.lT:=by
    unfold aD at N;split at N;cases N;split at N;cases N;rename_i n o;simp only[mdo]at N;split at N;rename_i q;cases N;have :=U.2;unfold LEn at this;rw[x8 n]at this;rcases this.2 with h |h |h;omega;omega;have :=h.2.2.1;unfold z20 at this;rw[x8 (by omega),x8 (by omega),x9 q.1,x9 q.2]at this;exact zcu.1 this;cases N
   have uq:u∈s.l5.a6.flatten:=by
    have hq:∀ i:aK,u∈quV s.l5 i ->u∈s.l5.a6.flatten:=λi h=>by
     unfold quV at h;by_cases hl:i.ii.toNat<s.l5.a6.length;exact List.mem_flatten.2 ⟨_,ztn hl,h⟩;rw[x7,y9 (by omega)]at h;cases h
    unfold aD at J;split at J;cases J;split at J;cases J;simp only[mdo]at J;split at J;exact hq _ (List.mem_of_mem_take J);split at J;exact hq _ J;cases J
   have nd:=F.nd;unfold kw at nd;rw[List.nodup_append]at nd;exact nd.2.2 _ us _ uq rfl
  exact⟨λx y U hy=>R (A.v x U) (C.v y hy),λx y U hy=>R (A.o x U) (C.o y hy),λx y U hy=>R (A.q x U) (C.q y hy),sg c a e,sg a c f⟩
 have a2:=S1.id;have a1:=Z.id;have nA:∀ V,aN p b (kS s a) a=some V ->V.id≠aX c:=λV h q=>by have :=S1.new V h;rw[q]at this;have :=e.1;omega
 have nC:∀ V,aN p b (kS s c) c=some V ->V.id≠aX a:=λV h q=>by have :=Z.new V h;rw[q]at this;have :=f.1;omega
 refine aC9 J1.val J2.val ?_ (λV=>?_) λid=>?_;rw[X1.l5,X2.l5,m.th,m.bu,m.d,j.th,j.bu,j.d,S1.l5,Z.l5,aDl M F.mO];rw[X1.ab,X2.ab,m.th,m.bu,m.t,j.th,j.bu,j.t,S1.ab,Z.ab];constructor;rintro(h | ⟨h |h |h,h'⟩ |h);exact .inr (.inl ⟨.inl h,by rw[h,a1];exact hd.symm⟩);exact .inl h;exact .inr (.inl ⟨.inr (.inl ⟨h.1,h'⟩),h.2⟩);exact .inr (.inr h);exact .inr (.inl ⟨.inr (.inr h),nC V h⟩);rintro(h | ⟨h |h |h,h'⟩ |h);exact .inr (.inl ⟨.inl h,by rw[h,a2];exact hd⟩);exact .inl h;exact .inr (.inl ⟨.inr (.inl ⟨h.1,h'⟩),h.2⟩);exact .inr (.inr h);exact .inr (.inl ⟨.inr (.inr h),nA V h⟩);rw[X1.buf,X2.buf,m.th,m.bu,j.th,j.bu,S1.buf,Z.buf];by_cases q:id=aX c;rw[x9 q,x8 (by rw[q];exact hd.symm),x9 q];rw[x8 q];by_cases r:id=aX a;rw[x9 r,x9 r];rw[x8 r,x8 r,x8 q]
theorem aDf (h:aX a=aX c):kS s a=kS s c/\lx s a=lx s c:=by unfold kS lx bb;rw[h];exact⟨rfl,rfl⟩
theorem aCh {f o:Int} (j:bI p) (N:cw s) (J:cw (zt p b s f).1) (H:cw (zt p b s o).1) (x:aV p b=0) (I:ul p b s) (ha:aQ (cL p s) f) (hc:aQ (cL p s) o)
 (i:f<0) (e:¬ o<0) (E:aX f=aX o) (hi:awx (zf p s f).1 (zf p s o).1):Comm p b s f o:=by
 have hv:=I.val;have hv32:=rc hv;have y:=(u4 j N x I ha).2.1;have I2:=(u4 j N x I hc).2.1;have S1:=axc j N x I ha;have S2:=axc j N x I hc;have u:=(ax0 j N hv32).1 ha;have hc':=(ax0 j N hv32).1 hc;have la:=ax3 hv32 u.1 (ax9 u.2);have lc:=ax3 hv32 hc'.1 (ax9 hc'.2);rw[la,lc]at hi;have Q:=aCq i e E u.2 hc'.2;have⟨eT,eB⟩:=aDf (s:=s) E;have S1m:=S1.l5;have K:=S1.ab;have S1b:=S1.buf;rw[eT,eB]at S1m la hi;simp only[eT,eB]at K S1b;have F:=u.2;rw[eT,eB]at F;have h0:0<(lx s o).bO.length:=by unfold LEn at F;rwa [x9 i]at F
 have⟨hid,hk⟩:=ax7 hc'.1;have⟨v1,v2,v3⟩:=z12.1 hv;have k:=nM.1 (v3 _ hk).2;have k:bQ (lx s o)=true:=k.1;have en0:=((z21 _).1 k).2 0 h0;unfold mv at en0;simp only[xa,xd]at en0;have X:aT p b s.l5 (kS s o) (lx s o) f=kS s o:=by unfold aT;rw[x9 i]
 have aBf:∀ T C,aB p T C f=q7 C:=λT C=>by unfold aB;rw[x9 i];rfl
 have Z:∀ T,aN p b T f=none:=λT=>by unfold aN;rw[x8 (λh=>h.1 i)]
 have n21:(zg p (kS s o)).op≠21:=by unfold rt at Q;omega
 have Y:aN p b (kS s o) o=none:=by unfold aN;rw[x8 (λh=>n21 h.2)]
 have aDo:∀ m C,aD p m (kS s o) C o=nop:=λm C=>by unfold aD;rw[x8 e,x9 Q]
 have m1:kS s o∈(zt p b s f).1.ab:=(K _).2 (.inl X.symm);have⟨q1,q2⟩:=azi y.val m1 hid;have q3:lx (zt p b s f).1 o=q7 (lx s o):=by rw[az6 y.val q1,S1b,x9 E.symm,aBf]
 have hP:bQ (q7 (lx s o))=true:=by
  rw[<- q3];exact(nM.1 ((z12.1 y.val).2.2 _ (ax7 q1).2).2).1
 have mf:(zt p b s f).1.l5=nl s.l5 {nop with v:=some (((lx s o).bO.getD 0 cc).var.toNat,((lx s o).bO.getD 0 cc).val)}:=by
  rw[S1m];unfold aD;rw[x9 i]
 have eS:((zg p (kS s o)).op=8∨(zg p (kS s o)).op=14) ->sl (q7 (lx s o)) (zt p b s f).1.l5 (zg p (kS s o)).ii=sl (lx s o) s.l5 (zg p (kS s o)).ii:=λh8=>by
  refine aCv k hP h0 v1 (z12.1 y.val).1 (λn hn=>?_) en0.1.1.1 λhl he=>?_;rw[mf];show(s.l5.eA.set _ _).getD n 0=_;exact gN hn;have a1:(⟨4,aX f,(lx s o).first,true⟩:Acc)∈ms (pm p s.l5 (kS s o) (lx s o) f):=by
   unfold pm;rw[x9 i];simp[ms,t8,m5,axj]
  have V:(sl (lx s o) s.l5 (zg p (kS s o)).ii).2=(lx s o).first:=by unfold sl;rw[x9 hl];exact he
  have f0:=((z21 _).1 k).1.2.1;have a2:(⟨4,aX o,(lx s o).first,false⟩:Acc)∈ms (pm p s.l5 (kS s o) (lx s o) o):=by
   unfold pm;rw[x8 e,x9 h8,V];have ei:aX (kS s o).id=aX o:=by rw[hid,aBx e,aBx e]
   by_cases h14:(zg p (kS s o)).op=14;rw[x9 h14];simp[ms,t8,m5,axj,f0,ei];rw[x8 h14];simp[ms,t8,m5,axj,f0,ei]
  have :=(hi.cf _ a1 _ a2 rfl E rfl).1;cases this
 have hl:=hc'.2;unfold LEn at hl;rw[x8 e]at hl;have L1:LEn p (zt p b s f).1 (kS s o) (q7 (lx s o)) o:=by
  unfold LEn;rw[x8 e];refine⟨hl.1, ?_⟩;rcases hl.2 with h |h |h;exact .inl h;exact .inr (.inl (by rw[eS (.inr h.1)];exact h));exact absurd Q h.1
 have lab1:pm p (zt p b s f).1.l5 (kS s o) (q7 (lx s o)) o=pm p s.l5 (kS s o) (lx s o) o:=by
  unfold pm;rw[x8 e,x8 e];by_cases h8:(zg p (kS s o)).op=8∨(zg p (kS s o)).op=14;rw[x9 h8,x9 h8,eS h8];have R:(zg p (kS s o)).op=9:=by unfold rt at Q;omega
  rw[x8 h8,x8 h8,x9 R,x9 R];have :(q7 (lx s o)).first+((q7 (lx s o)).bO.length:Int)=(lx s o).first+(lx s o).bO.length:=by
   show(lx s o).first+1+(((lx s o).bO.drop 1).length:Int)=_;rw[wn];omega
  rw[this]
 have aT1:aT p b (zt p b s f).1.l5 (kS s o) (q7 (lx s o)) o=aT p b s.l5 (kS s o) (lx s o) o:=by
  unfold aT aR;rw[x8 e,x8 e];by_cases h8:(zg p (kS s o)).op=8∨(zg p (kS s o)).op=14;rw[x9 h8,x9 h8,eS h8];have R:(zg p (kS s o)).op=9:=by unfold rt at Q;omega
  rw[x8 h8,x8 h8,x9 R,x9 R]
 have e1:aQ (cL p (zt p b s f).1) o=true:=(ax0 j J (rc y.val)).2 ⟨q1,by rw[q2,q3];exact L1⟩;have idO:=S2.id;have m2:aT p b s.l5 (kS s o) (lx s o) o∈(zt p b s o).1.ab:=(S2.ab _).2 (.inl rfl);have⟨r1,r2⟩:=azi (a:=f) I2.val m2 (by rw[idO,E]);have r3:lx (zt p b s o).1 f=aB p (kS s o) (lx s o) o:=by rw[az6 I2.val r1,S2.buf,x9 E]
 have a7:0<(aB p (kS s o) (lx s o) o).bO.length/\(aB p (kS s o) (lx s o) o).bO.getD 0 cc=(lx s o).bO.getD 0 cc/\(aB p (kS s o) (lx s o) o).first=(lx s o).first/\aB p (kS s o) (q7 (lx s o)) o=q7 (aB p (kS s o) (lx s o) o):=by
  unfold aB;rw[x8 e,x8 e];split;refine⟨by show 0<(_++[_]:List cD).length;simp, ?_,rfl, ?_⟩;show((lx s o).bO++[_]).getD 0 cc=_;rw[x7,ya h0,<- x7];unfold q7;simp only[bR.mk.injEq,w6];rw[List.drop_append_of_le_length O];exact⟨h0,rfl,rfl,rfl⟩
 have⟨n1,n2,n3,n4⟩:=a7;have V:aQ (cL p (zt p b s o).1) f=true:=(ax0 j H (rc I2.val)).2 ⟨r1,by rw[r2,r3];unfold LEn;rw[x9 i];exact n1⟩;have mo:(zt p b s o).1.l5=s.l5:=by rw[S2.l5,aDo];rfl
 have X1:=axc j J x y e1;have X2:=axc j H x I2 V;have a4:=X1.l5;have X1t:=X1.ab;have a5:=X1.buf;have X2m:=X2.l5;have a3:=X2.ab;have X2b:=X2.buf;simp only[q2,q3]at a4 X1t a5;simp only[r2,r3]at X2m a3 X2b;have J1:=(u4 j J x y e1).2.1;have J2:=(u4 j H x I2 V).2.1;refine⟨e1,V, ?_, ?_, ?_⟩;rw[ax3 (rc y.val) q1 (by rw[x8 e,q2];exact hl.1),q2,q3,lab1,lc];rw[ax3 (rc I2.val) r1 (by rw[x9 i,r3];exact n1),r3,la];unfold pm;rw[x9 i,x9 i,n2,n3];refine aC9 J1.val J2.val ?_ (λV=>?_) λid=>?_;rw[a4,X2m,aDo,mf,mo];unfold aD;rw[x9 i,n2];rfl;have eo:aT p b (zt p b s o).1.l5 (aT p b s.l5 (kS s o) (lx s o) o) (aB p (kS s o) (lx s o) o) f=aT p b s.l5 (kS s o) (lx s o) o:=by
  show(if f<0 then _ else _)=_;rw[x9 i]
 rw[X1t,a3,aT1,eo,Y,Z,K,S2.ab,X,Z,Y];constructor;rintro(h | ⟨h |h |h,U⟩ |h);exact .inl h;rw[h]at U;exact absurd hid U;exact .inr (.inl ⟨.inr (.inl ⟨h.1,U⟩),h.2⟩);cases h;cases h;rintro(h | ⟨h |h |h,U⟩ |h);exact .inl h;exact .inl h;exact .inr (.inl ⟨.inr (.inl ⟨h.1,U⟩),h.2⟩);cases h;cases h;rw[a5,X2b,aBf,S1b,S2.buf,aBf,n4,E];by_cases q:id=aX o;rw[x9 q,x9 q];rw[x8 q,x8 q,x8 q,x8 q]
theorem comm (u:bI p) (y:cw s) (m:cw (zt p b s a).1) (k:cw (zt p b s c).1) (N:aV p b=0) (I:ul p b s) (J:aQ (cL p s) a) (H:aQ (cL p s) c)
 (F:awx (zf p s a).1 (zf p s c).1):Comm p b s a c:=by
 by_cases f:aX a=aX c;have e:=rc I.val;have j:=(ax0 u y e).1 J;have i:=(ax0 u y e).1 H;have R:(zf p s a).1.aC=a:=by rw[ax3 e j.1 (ax9 j.2)];exact aya j.1
 have Q:(zf p s c).1.aC=c:=by rw[ax3 e i.1 (ax9 i.2)];exact aya i.1
 have x:a≠c:=by have :=F.ag;rw[R,Q]at this;exact this
 by_cases E:a<0;have K:¬ c<0:=λh=>x (by unfold aX at f;rw[x9 E,x9 h]at f;omega);exact aCh u y m k N I J H E K f F;have K:c<0:=we λh=>x (by unfold aX at f;rw[x8 E,x8 h]at f;exact f);exact(aCh u y k m N I H J K E f.symm F.symm).symm;exact aDk u y m k N I J H f F
end
end Go.Proofs.S25
