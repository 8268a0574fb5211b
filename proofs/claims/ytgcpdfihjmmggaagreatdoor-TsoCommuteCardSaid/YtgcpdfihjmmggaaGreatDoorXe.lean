import Derived.Test.YtgcpdfihjmmggaaGreatDoorXd
namespace Go.AV
open Go.RowKit
section
variable {C:ls} {W0:lw} {F0:Nat ->Prop} {st st':St} {a:Act} {w:World} {F:Nat ->Prop} {φ:Nat ->Place} {e:Operand ->Option AV} {dst:Option Nat} {b9:FuncId ->List AV ->Option AV} {CC:FuncId ->List AV ->AV ->Prop} {r:iT} {o:Oper}
 {next:Act ->World ->Prop} {Q:Exit ->Act ->World ->Prop}
def PB (w:World) (F:Nat ->Prop) (v:Value) (sh:ex) (m:Nat) (g:Nat ->AV):Prop:=
 ∃ A c,v= .slice A m c/\(0<m ->∃ b o,∃ e:Nat ->Nat ->Value,A=some ⟨b,o,none⟩/\(∀ i,i<m ->∀ j,j<sh.size ->w.cell? ⟨b,o+(i*sh.size+j),none⟩=some (e i j))/\
  (∀ i,i<m ->∀ j,j<sh.size ->au w F (e i j) (z6 sh (g i) j)))
theorem Za {v:Value} {sh:ex} {m:Nat} {g:Nat ->AV} (h:aG w F φ v (.seq sh m g)∨aG w F φ v (.bD sh m g)):PB w F v sh m g:=by
 have⟨A,c,e,hc⟩:=aG.aot h;exact⟨A,c,e,λhm=>by have⟨_,b,o,cs,i,_,h2,f⟩:=hc hm;exact⟨b,o,cs,i,h2,f⟩⟩
theorem zk4 {v:Value} {sh:ex} {g:Nat ->AV} (h:aG w F φ v .ax):PB w F v sh 0 g:=by
 cases h with
 |stat h=>cases h;exact⟨_,_,rfl,λh=>absurd h O⟩
theorem zzn (h:li C W0 F0 st a w F φ) {v:Value} {b m r:Nat} {ty:TypeId} {sh:ex} {g:Nat ->AV} (u:aG w F φ v (.own b m)) (E:get st.heap b=some (.row ty sh r g)) (H:m<=r):PB w F v sh m g:=by
 have⟨x,_,f⟩:=h.heap b _ E;rcases u.dw with⟨gb,hg,rfl,hc⟩ | ⟨hg,h0,rfl⟩
 rcases f with⟨h1,_⟩ | ⟨g',cs,hg',_,_,hh,hsz,hnc,_,hrep⟩
 grind;obtain rfl:g'=gb:=by rw[hg]at hg';injection hg' with e;exact e.symm
 refine⟨_,_,rfl,λhm0=>⟨g',0,λi j=>cs.getD (i*sh.size+j) undef,rfl,λi y j s=>?_,λi y j s=>hrep i O j s⟩⟩;have k:(i+1)*sh.size<=(φ b).cap*sh.size:=xn _ O;rw[y7]at k;rw[xw];exact nq hh O;subst h0;exact⟨_,_,rfl,λh=>absurd h O⟩
theorem zb4 {v:Value} {sh:ex} {m:Nat} {g:Nat ->AV} (h:PB w F v sh m g) (e:0<sh.size):∃ A c,∃ f:List Value,v= .slice A m c/\f.length=m*sh.size/\(0<m ->∃ N,A=some N/\∀ j u,f[j]? =some u ->w.cell? (N.add j)=some u)/\
 (∀ i,i<m ->∀ j,j<sh.size ->∃ u,f[i*sh.size+j]? =some u/\au w F u (z6 sh (g i) j))/\∀ u∈f,u.oneCell'=true:=by
 have⟨A,c,Q,R⟩:=h;rcases wi m with M |M;simp_all;have⟨b,o,K,U,X,V⟩:=R M;have E:∀ i j,i<m ->j<sh.size ->i*sh.size+j<m*sh.size:=by
  intro i j H s;have x:(i+1)*sh.size<=m*sh.size:=xn _ H;rw[y7]at x;omega
 have J:∀ i j,j<sh.size ->(i*sh.size+j)/sh.size=i/\(i*sh.size+j) % sh.size=j:=by
  intro i j s;rw[gw i,jl e,jm,ji s,jj s];omega
 have k:∀ q,q<m*sh.size ->((List.range (m*sh.size)).map λq=>K (q/sh.size) (q % sh.size))[q]? =some (K (q/sh.size) (q % sh.size)):=by
  grind
 refine⟨A,c,(List.range (m*sh.size)).map λq=>K (q/sh.size) (q % sh.size),Q,ap,λ_=>⟨_,U,λq u r=>?_⟩,λi H j s=>⟨_,k _ (E i j H s), ?_⟩,λu r=>?_⟩;have y:q<m*sh.size:=by have :=(yw.1 r).1;simpa using this
 rw[k q y]at r;cases r;rw[wY];have :=X (q/sh.size) ((Nat.div_lt_iff_lt_mul e).2 y) (q % sh.size) (ke _ e);rw[gw,Nat.div_add_mod]at this;exact this;have⟨Z,Y⟩:=J i j s;grind;simp at r;obtain⟨q,y,rfl⟩:=r;exact au.fa sh _ _ (V (q/sh.size) ((Nat.div_lt_iff_lt_mul e).2 y) (q % sh.size) (ke _ e))
theorem li.Hn (h:li C W0 F0 st a w F φ) {d:Nat} {c:ar} (U:jL st d) (hc:c.names d=false) (i:Place)
 (u:∀ b R g,get st.heap b=some R ->(φ b).bV=some g ->i.bV≠some g)
 (hB:z24 w F (λk=>if k=d then i else φ k) W0.B d c):
 li C W0 F0 {st with heap:=put st.heap d c} a w F (λk=>if k=d then i else φ k):=by
 simp only[jL,xi,xg]at U
 have⟨fe,fh,fl⟩:=U
 refine⟨λs x hs=>?_,λb R f=>?_, ?_,h.ro,h.base,h.sub,h.new,h.dfr,h.iC,h.ol,zi0 h.gV fl⟩
 . have⟨v,Y,Z⟩:=h.env s x hs
   refine⟨v,Y,Z.keep (λ_ _=>rfl) (λ_ N=>N) λb E=>nT φ d i λe=>?_⟩
   subst e
   rw[Tp hs fe]at E;cases E
 . by_cases e:b=d
   . subst e
     rw[zv]at f
     grind
   . rw[zb _ _ _ _ e]at f
     have E:=h.heap b R f
     refine E.keep (λ_ _=>rfl) (λ_ N=>N) (λg hg=>⟨rfl,(E.lt hg).2.1⟩) (nT φ d i e) λb' y=>nT φ d i λe=>?_
     subst e
     rw[(Og f fh).1]at y;cases y
 . intro b K X V g Q J H j
   by_cases e:b=d
   . by_cases m:K=d
     . omega
     . rw[zb _ _ _ _ m]at J
       simp[e]at H
       simp[m]at j
       exact absurd H (u K V g J j)
   . rw[zb _ _ _ _ e]at Q
     simp[e]at H
     by_cases m:K=d
     . simp[m]at j
       exact absurd j (u b X g Q H)
     . rw[zb _ _ _ _ m]at J
       simp[m]at j
       exact h.inj b K X V g Q J H j
theorem z8h {b:Nat}:∀ {l:List (Nat×AV)} {s:Nat} {x:AV},get (V9 b l) s=some x ->∃ y,get l s=some y/\((y=x/\x.names b=false)∨x= .when false .any)
 | [],_,_,h=>by simp[V9,get]at h
 | (k,v)::l,s,x,h=>by
  simp[V9,get]at h ⊢;split at h;refine⟨v,rfl, ?_⟩;cases h;split;exact .inr rfl;rename_i e;exact .inl ⟨rfl,e⟩;exact z8h h
mutual
theorem z8i {b:Nat}:∀ (sh:ex) (x:AV) (j:Nat),(z6 sh (x.kill b) j=z6 sh x j/\(z6 sh x j).names b=false)∨z6 sh (x.kill b) j= .any
 | .ey,x,j=>by
  simp[z6];cases x with
  |own c n=>simp[AV.kill];cases h:Nat.beq c b<;>simp[h,eC,AV.b8,AV.names]
  |ptr c n=>simp[AV.kill];cases h:Nat.beq c b<;>simp[h,eC,AV.b8,AV.names]
  |bq c i n=>simp[AV.kill];cases h:Nat.beq c b<;>simp[h,eC,AV.b8,AV.names]
  |bJ c i n q=>simp[AV.kill];cases h:Nat.beq c b<;>simp[h,eC,AV.b8,AV.names]
  |c8 f l=>simp[AV.kill];cases h:AV.bG b l<;>simp[h,eC,AV.b8,AV.names]
  |_=>simp[AV.kill,eC,AV.b8,AV.names]
 | .agg k,x,j=>by
  cases x with
  |agg e=>simp[z6];exact zai k e j
  |own c n=>right;simp[AV.kill];cases h:Nat.beq c b<;>simp[z6]
  |ptr c n=>right;simp[AV.kill];cases h:Nat.beq c b<;>simp[z6]
  |bq c i n=>right;simp[AV.kill];cases h:Nat.beq c b<;>simp[z6]
  |bJ c i n q=>right;simp[AV.kill];cases h:Nat.beq c b<;>simp[z6]
  |c8 f l=>right;simp[AV.kill];cases h:AV.bG b l<;>simp[z6]
  |_=>right;simp[AV.kill,z6]
 | .arr n s,x,j=>by
  cases x with
  |arr m f=>left;simp[AV.kill,z6,AV.names]
  |own c n=>right;simp[AV.kill];cases h:Nat.beq c b<;>simp[z6]
  |ptr c n=>right;simp[AV.kill];cases h:Nat.beq c b<;>simp[z6]
  |bq c i n=>right;simp[AV.kill];cases h:Nat.beq c b<;>simp[z6]
  |bJ c i n q=>right;simp[AV.kill];cases h:Nat.beq c b<;>simp[z6]
  |c8 f l=>right;simp only[AV.kill];cases h:AV.bG b l<;>simp[z6]
  |_=>right;simp[AV.kill,z6]
theorem zai {b:Nat}:∀ (k:List ex) (e:List AV) (j:Nat),(zh k (AV.kH b e) j=zh k e j/\(zh k e j).names b=false)∨zh k (AV.kH b e) j= .any
 |s::k,x::e,j=>by
  simp only[AV.kH,zh];split;exact z8i s x j;exact zai k e _
 | [],_,_=>by right;cases ‹List AV› <;>simp[zh]
 |_::_,[],_=>by right;simp[AV.kH,zh]
end
theorem z37 {b:Nat}:∀ {l:List (Nat×ar)} {s:Nat} {c:ar},get (Xn b l) s=some c ->∃ d,get l s=some d/\c=d.kill b
 | [],_,_,h=>by simp[Xn,get]at h
 | (k,v)::l,s,c,h=>by
  simp[Xn,get]at h ⊢;split at h;cases h;exact⟨v,rfl,rfl⟩;exact z37 h
theorem zdq {b:Nat} {c:ar}:(c.kill b).isRow=c.isRow:=by
 cases c with
 |cell e sh x=>simp[ar.kill];split<;>rfl
 |row=>rfl
theorem z24.pH {w w':World} {F H:Nat ->Prop} {φ s:Nat ->Place} {base:Nat ->Prop} {b d:Nat} {c:ar} (h:z24 w F φ base b c) (u:∀ k,F k ->w'.heap[k]? =w.heap[k]?) (y:∀ k,F k ->H k)
 (m:∀ g,(φ b).bV=some g ->w'.heap[g]? =w.heap[g]? /\¬ H g) (r:s b=φ b) (J:∀ e,e≠d ->s e=φ e):z24 w' H s base b (c.kill d):=by
 cases c with
 |cell Y sh x=>
  simp[ar.kill];cases N:x.names d with
  |false=>exact h.keep u y m r λe i=>J e λe'=>by subst e';simp[ar.names]at i;rw[N]at i;cases i
  |true=>
   have⟨V,g,X,E,U,Z,R,Q,M⟩:=h;refine⟨by rw[r];exact V,g,X,by rw[r];exact E,U,(m g E).2,(m g E).1.trans R,Q,λj K=>?_⟩;rcases z8i (b:=d) sh x j with⟨k1,k2⟩ |k1
   rw[k1];exact(M j K).keep u y λe i=>J e λe'=>dl;rw[k1];exact .stat (.any _ (aG.fa sh x j (M j K)))
 |row ty sh n f=>exact h.keep u y m r λe i=>by simp[ar.names]at i
theorem li.uL (h:li C W0 F0 st a w F φ) {b:Nat} {c c':ar} {w':World} {row:Option Nat} (U:get st.heap b=some c) (N:w.grownBy w' row)
 (a4:c.isRow=true) (H:∀ g,row=some g ->(φ b).bV=some g) (K:Place) (V:∀ g,K.bV=some g ->(φ b).bV=some g∨w.heap.size<=g) (hB:z24 w' F (λk=>if k=b then K else φ k) W0.B b c'):
 li C W0 F0 {env:=V9 b st.env,heap:=put (Xn b st.heap) b c'} a w' F (λk=>if k=b then K else φ k):=by
 have J:∀ k,k<w.heap.size ->(∀ g,(φ b).bV=some g ->k≠g) ->w'.heap[k]? =w.heap[k]? :=λk f hne=>N.block k f λe=>hne k (H k e.symm) rfl;have f:∀ k,F k ->w'.heap[k]? =w.heap[k]? :=λk f=>J k (h.ro k f) λg Y e=>((h.heap b c U).lt Y).2.1 (e ▸ f);have hother:∀ b' u g,b'≠b ->get st.heap b'=some u ->(φ b').bV=some g ->w'.heap[g]? =w.heap[g]? :=λb' u g hne hb' j=>
  J g ((h.heap b' u hb').lt j).1 λg2 Z e=>hne (h.inj b' b u c g hb' U j (e ▸ Z))
 refine⟨λs x hs=>?_,λb' u m=>?_, ?_,λk f=>wj (h.ro k f) N.size, ?_,h.sub,h.new,h.dfr,h.iC,λg x hgx=>(h.ol g x hgx).keep f λ_ f=>f,λb' p X=>?_⟩;have⟨y,hy,hyx⟩:=z8h hs;have⟨v,hv,hr⟩:=h.env s y hy;rcases hyx with⟨rfl,hn⟩ |rfl
 refine⟨v,hv,hr.keep f (λ_ f=>f) λd hd=>nT φ b K λe=>?_⟩;grind;exact⟨v,hv, .eZ false (λh=>by cases h) λ_=> .inr rfl⟩;by_cases e:b'=b;subst e;rw[zv]at m;grind;rw[zb _ _ _ _ e]at m;obtain⟨c0,E,rfl⟩:=z37 m;have hb':=h.heap b' c0 E;exact hb'.pH f (λ_ f=>f) (λg j=>⟨hother b' c0 g e E j,(hb'.lt j).2.1⟩) (nT φ b K e) λd hd=>nT φ b K hd;intro b1 b2 a5 c2' g R h2' Q h4;have new:∀ b' u g,b'≠b ->get st.heap b'=some u ->(φ b').bV=some g ->K.bV≠some g:=by
  intro b' u g hne hb' j X;rcases V g X with h5 |h5;exact hne (h.inj b' b u c g hb' U j h5);have :=((h.heap b' u hb').lt j).1;omega
 by_cases e:b1=b;by_cases e':b2=b;omega;rw[zb _ _ _ _ e']at h2';have⟨c2,h2,_⟩:=z37 h2';simp[e]at Q;simp[e']at h4;exact absurd Q (new b2 c2 g e' h2 h4);rw[zb _ _ _ _ e]at R;have⟨u,h1,_⟩:=z37 R;simp[e]at Q;by_cases e':b2=b;simp[e',wu]at h4;exact absurd h4 (new b1 u g e h1 Q);rw[zb _ _ _ _ e']at h2';have⟨c2,h2,_⟩:=z37 h2';simp only[e',yi]at h4;exact h.inj b1 b2 u c2 g h1 h2 Q h4;refine h.base.trans (L':=λk=>row=some k) ⟨N.os,N.tape,N.output,N.size,λk f hn=>N.block k f λe=>hn e.symm⟩ λi hi hlt=>?_;exact(((h.heap b c U).lt (H i hi)).2.2).resolve_left O;have⟨a1,a2,a3⟩:=h.gV b' p X;have hne:b'≠b:=λe=>dl;refine⟨a1,by simp only[hne,yi];exact a2,λc1 m=>?_⟩;rw[zb _ _ _ _ hne]at m;obtain⟨c0,E,rfl⟩:=z37 m;rw[zdq];exact a3 c0 E
theorem z5h {B:Nat ->Prop} {base b n:Nat} {r:TypeId} {sh:ex} {f:Nat ->AV} {v:Value} {xs:List Value} (h:w.ownsRow base r sh.size v n xs)
 (x:∀ k,v.ownBlock=some k ->B k) (K:∀ k,v.ownBlock=some k ->¬ F k) (H:∀ i,i<n ->∀ j,j<sh.size ->∃ u,xs[i*sh.size+j]? =some u/\au w F u (z6 sh (f i) j)):
 ∃ s:Place,s.bV=v.ownBlock/\s.sh=sh/\s.ty=r/\∀ φ:Nat ->Place,φ b=s ->z24 w F φ B b (.row r sh n f)/\aG w F φ v (.own b n):=by
 rcases h.2 with⟨rfl,rfl⟩ | ⟨g,cap,cur,rfl,hbg,hg,hnc,hcm,hcs,htake⟩
 exact⟨⟨none,0,sh,r⟩,rfl,rfl,rfl,fun φ e=>⟨⟨by rw[e],by rw[e], .inl ⟨by rw[e],rfl⟩⟩, .gX b (by rw[e])⟩⟩;refine⟨⟨some g,cap,sh,r⟩,rfl,rfl,rfl,fun φ e=>⟨⟨by rw[e],by rw[e], .inr ⟨g,cur,by rw[e],x g rfl,K g rfl,hg,by rw[e];exact hcs,by rw[e];exact hnc,by rw[e];exact hcm,λi E j J=>?_⟩⟩, ?_⟩⟩;have⟨u,y,M⟩:=H i E j J;rw[<- htake]at y;have m:(i+1)*sh.size<=n*sh.size:=xn _ E;rw[y7]at m;rw[y5 O,ym]at y;simp_all;have :=aG.own (w:=w) (F:=F) (φ:=φ) b g n (by rw[e]) (by rw[e];exact hnc);grind
theorem zml {B:Nat ->Prop} {b n m:Nat} {H:TypeId} {sh:ex} {f:Nat ->AV} {v:Value} (R:z24 w F φ B b (.row H sh n f)) (J:aG w F φ v (.own b m)) (N:m=n):
 ∃ y,w.ownsRow 0 H sh.size v n y/\(∀ k,v.ownBlock=some k ->(φ b).bV=some k)/\∀ i,i<n ->∀ j,j<sh.size ->∃ u,y[i*sh.size+j]? =some u/\au w F u (z6 sh (f i) j):=by
 subst N;have⟨M,K,r⟩:=R;rcases J.dw with⟨g,hg,rfl,hc⟩ | ⟨hg,h0,rfl⟩
 rcases r with⟨h1,_⟩ | ⟨g',cs,hg',hbase,_,hh,hsz,hnc,hmax,hrep⟩
 grind;obtain rfl:g'=g:=by rw[hg]at hg';injection hg' with e;exact e.symm
 have E:m*sh.size<=(φ b).cap*sh.size:=xn _ hnc;refine⟨cs.toList.take (m*sh.size),⟨co, .inr ⟨g',_,cs,rfl,xt _,hh,hnc,hmax,hsz,rfl⟩⟩,λk s=>by simp[Value.ownBlock]at s;subst s;exact hg,λi x j Q=>⟨_, ?_,hrep i x j Q⟩⟩;have h:(i+1)*sh.size<=m*sh.size:=xn _ x;rw[y7]at h;rw[y5 O,ym,xb,y4 O,yj];subst h0;exact⟨[],World.ownsRow_nil _ _ _ _,λk s=>by simp[Value.ownBlock]at s,λi x=>absurd x O⟩
theorem zbv {P:Program} (base:Nat) (t ty e:TypeId) (i:TypeInfo) (size:Nat) (h:P.underlying t=some (.slice e)) (j:P.info? e=some i)
 (v:Value) (n:Nat) (xs:List Value) (f:w.ownsRow base e size v n xs) (c:Nat):(Builtin.append_ #[t,t] ty #[v, .slice none 0 c]).run P w= .ok v w:=by
 rcases f.2 with⟨rfl,rfl⟩ | ⟨g,cap,cur,rfl,_,_,hnc,_⟩
 simp[Builtin.append_,run_underlying h,sizeOf,typeInfo,j,Builtin.lenOf,Builtin.firstCells];simp[Builtin.append_,run_underlying h,sizeOf,typeInfo,j,Builtin.lenOf,Builtin.firstCells,hnc,storeCells]
theorem zdr {x t ty:TypeId} {tl:cN} (hT:gn C) (R:aU C x=some tl) (Q:C.P.underlying t=some (.slice x)) {base n m:Nat} {v u:Value} {xs:List Value} {g:Nat ->AV} {sh:ex} (U:sh=tl.sh) (f:w.ownsRow base x sh.size v n xs)
 (hs:PB w F u sh m g) (a3:n+m<=9223372036854775807) (K:((n+m:Nat):Int)*tl.bytes<=140737488355328) (h:base<=w.heap.size):
 ∃ k r e,(Builtin.append_ #[t,t] ty #[v,u]).run C.P w= .ok k r/\r.ownsRow base x sh.size k (n+m) (xs++e)/\w.grownBy r v.ownBlock/\(k.ownBlock=v.ownBlock∨k.ownBlock=some w.heap.size)/\
  (∀ i,i<m ->∀ j,j<sh.size ->∃ u,e[i*sh.size+j]? =some u/\au w F u (z6 sh (g i) j)):=by
 subst U;have M:=hT _ _ R;have⟨dd,N,z,a2,s,E,H,hz,y,_,a1⟩:=M.info;obtain⟨A,c,e,rfl,hl,hA,Y,h1⟩:=zb4 hs M.pos;have J:(n+m)*tl.bytes<=140737488355328:=by
  omega
 rcases wi m with h0 |h0;subst h0;have X:e=[]:=xz (by simpa using hl);subst X;cases A with
 |none=>exact⟨v,w,[],zbv base t ty x N _ Q s v n xs f c,by simpa using f,World.grownBy.refl w _, .inl rfl,Y⟩
 |some ad=>
  have⟨k,r,V,h2,h3,_,Z⟩:=run_append_own_at (P:=C.P) w base t ty x N z _ _ Q s hz E H y M.pos v n xs f ad 0 c [] ap (λj u hj=>by simp at hj) ap (by unfold maxLen;omega) J h;exact⟨k,r,[],V,h2,h3,Z,Y⟩
 obtain⟨ad,rfl,hc⟩:=hA h0;have⟨k,r,V,h2,h3,_,Z⟩:=run_append_own_at (P:=C.P) w base t ty x N z _ _ Q s hz E H y M.pos v n xs f ad m c e hl hc h1 (by unfold maxLen;omega) J h;exact⟨k,r,e,V,h2,h3,Z,Y⟩
theorem zaj {n m:Nat} {sh:ex} {f g:Nat ->AV} {xs k:List Value} (hl:xs.length=n*sh.size) (y:∀ i,i<n ->∀ j,j<sh.size ->∃ u,xs[i*sh.size+j]? =some u/\au w F u (z6 sh (f i) j))
 (s:∀ i,i<m ->∀ j,j<sh.size ->∃ u,k[i*sh.size+j]? =some u/\au w F u (z6 sh (g i) j)):
 ∀ i,i<n+m ->∀ j,j<sh.size ->∃ u,(xs++k)[i*sh.size+j]? =some u/\au w F u (z6 sh (if i<n then f i else g (i - n)) j):=by
 intro i E j x;by_cases h:i<n;have r:(i+1)*sh.size<=n*sh.size:=xn _ h;grind;have e:i*sh.size=n*sh.size+(i - n)*sh.size:=by rw[<- y7];congr 1;omega
 rw[y6 O,x8 h,hl,show i*sh.size+j - n*sh.size=(i - n)*sh.size+j from O];exact s (i - n) O j x
theorem zng {c:Call} (h:li C W0 F0 st a w F φ) (hT:gn C) (ho:o.op= .call c) (hc:c.callee= .builtin .append) (M:zl C st e o.dst b9 CC (.call c)=some r)
 (hx:∀ x∈c.args.toList,∀ u,e x=some u ->aG w F φ (a.eval x) u) (a2:∀ p∈r.iD,p) (J:zx st o.dst r.gP=some st') (hn:Next C W0 F0 st' a o r.val next):o.wp C.P a w next Q:=by
 simp only[zl,hc]at M
 split at M
 case h_2=>cases M
 rename_i x y t t' d a4 e3 hd
 split at M
 case h_2=>cases M
 rename_i te v u h1 f2 h2 h3
 have :=xc f2
 subst this
 split at M
 case h_2=>cases M
 rename_i Z d4
 split at M
 case h_2=>cases M
 rename_i tl d2
 split at M
 case h_2=>cases M
 rename_i Y m g ps U
 have ea:c.args=#[x,y]:=by rw[<- g7 (xs:=c.args),a4]
 have et:c.argTypes=#[t,t]:=by rw[<- g7 (xs:=c.argTypes),e3]
 have T:=hT _ _ h1
 have Tl:=hT _ _ d2
 have hu:=RD T d4
 have hV:=hx x (by rw[a4];simp) v h2
 have hU:=hx y (by rw[a4];simp) u h3
 have fin:∀ {X:Value} {w':World},(Builtin.append_ #[t,t] o.type #[a.eval x,a.eval y]).run C.P w= .ok X w' ->next (a.put o.dst X) w' ->o.wp C.P a w next Q:=by
  intro X w' E f4
  unfold Oper.wp
  have :(execOp a.eval o).run C.P w= .ok (.value X) w':=by
   refine UU ho hc ?_
   rw[ea,et]
   simp only[builtin,Sem.run_bind]
   have :(#[x,y].map a.eval)=#[a.eval x,a.eval y]:=ap
   rw[this,E]
   rfl
  rw[this]
  exact f4
 have c3:∀ {w':World},w.grownBy w' none ->Below w.heap.size w w':=λhg=>(Below.refl _ _).grown hg (xm _) ap
 have hs:(∀ p∈ps,p) ->PB w F (a.eval y) Y m g:=by
  intro b5
  cases u<;>simp only[xq,yn,reduceCtorEq]at U
  . obtain⟨rfl,rfl,rfl,rfl⟩:=U;exact zk4 hU
  . obtain⟨rfl,rfl,rfl,rfl⟩:=U;exact Za (.inl hU)
  . obtain⟨rfl,rfl,rfl,rfl⟩:=U;exact Za (.inr hU)
  . split at U
    . rename_i hb
      simp only[xq,yn]at U
      obtain⟨rfl,rfl,rfl,rfl⟩:=U
      exact zzn h hU hb (b5 _ ap)
    . cases U
 have VX:∃ vx,vx=a.eval x:=⟨_,rfl⟩
 have⟨vx,b0⟩:=VX
 rw[<- b0]at hV
 have a7:∀ {X:Value} {w':World} {n:Nat} {f:Nat ->AV} {xs:List Value},(Builtin.append_ #[t,t] o.type #[a.eval x,a.eval y]).run C.P w= .ok X w' ->w'.ownsRow 0 Z Y.size X n xs ->w.grownBy w' none ->
  (X.ownBlock=none∨X.ownBlock=some w.heap.size) ->(∀ i,i<n ->∀ j,j<Y.size ->∃ u,xs[i*Y.size+j]? =some u/\au w F u (z6 Y (f i) j)) ->zx st o.dst (.new (.row Z Y n f))=some st' ->r.val= .own d n ->o.wp C.P a w next Q:=by
  intro X w' n f xs E h4 h5 H h7 J a5
  refine fin E ?_
  have hb:=c3 h5
  have hR:=h.grown hb (λ_ s=>s) (λk s=> .inl s) λk s=>wj (h.ro k s) hb.size
  have V:∀ k,F k ->w'.heap[k]? =w.heap[k]? :=λk s=>hb.block k (h.ro k s)
  have⟨pl,p1,p2,p3,p4⟩:=z5h (F:=F) (B:=W0.B) (base:=0) (b:=d) (f:=f) h4 (λk s=>by
   rcases H with H |H
   . rw[H]at s;cases s
   . rw[H]at s;cases s;exact h.nP (xm _)) (λk s hF=>by
   rcases H with H |H
   . rw[H]at s;cases s
   . rw[H]at s;cases s;have :=h.ro _ hF;omega) (λi hi j hj=>by
     have⟨uu,b4,b6⟩:=h7 i hi j hj
     exact⟨uu,b4,b6.keep V λ_ s=>s⟩)
  rw[hd]at J
  simp only[zx]at J
  split at J
  case h_2=>cases J
  rename_i d5
  cases J
  simp only[xa,xi]at d5
  have⟨B1,B2⟩:=p4 (λk=>if k=d then pl else φ k) ap
  refine hn X w' F _ (hR.Hn d5.1 d5.2 pl (λb c' gg g4 fe hp=>?_) B1) λ_=>by rw[a5];exact B2
  rw[p1]at hp
  rcases H with H |H
  . rw[H]at hp;cases hp
  . rw[H]at hp;cases hp;have :=((h.heap b c' g4).lt fe).1;omega
 have a9:∀ {X:Value} {w':World} {n:Nat} {f:Nat ->AV} {xs:List Value},(Builtin.append_ #[t,t] o.type #[a.eval x,a.eval y]).run C.P w= .ok X w' ->w'.ownsRow 0 Z Y.size X n xs ->w.grownBy w' none ->
  (X.ownBlock=none∨X.ownBlock=some w.heap.size) ->(∀ i,i<n ->∀ j,j<Y.size ->∃ u,xs[i*Y.size+j]? =some u/\au w F u (z6 Y (f i) j)) ->zx st o.dst .none=some st' ->r.val= .seq Y n f ->o.wp C.P a w next Q:=by
  intro X w' n f xs E h4 h5 H h7 J a5
  refine fin E ?_
  simp only[zx,xq]at J
  subst J
  have hb:=c3 h5
  have V:∀ k,F k ->w'.heap[k]? =w.heap[k]? :=λk s=>hb.block k (h.ro k s)
  obtain⟨hlen,⟨rfl,rfl⟩ | ⟨g0,cap,ee,rfl,_,ch,bk,gb,g2,g1⟩⟩:=h4
  . have hR:=h.grown hb (λ_ s=>s) (λk s=> .inl s) λk s=>wj (h.ro k s) hb.size
    refine hn _ _ F φ hR λ_=>?_
    rw[a5];exact .stat (.cH _ _ _ _)
  . have hg:g0=w.heap.size:=by
     rcases H with H |H
     . cases H
     . cases H;rfl
    subst hg
    have f3:w.heap.size<w'.heap.size:=(xj.1 ch).1
    refine hn _ _ (λk=>F k∨k=w.heap.size) φ (h.grown hb (λk s=> .inl s) (λk s=>s.imp id λe=>O) λk s=>?_) λ_=>?_
    . rcases s with s |rfl
      . exact wj (h.ro k s) hb.size
      . exact f3
    . rw[a5]
      have lt:∀ i,i<n ->∀ j,j<Y.size ->i*Y.size+j<n*Y.size:=λi hi j hj=>by
       have e5:=xn Y.size (show i+1<=n from hi)
       rw[y7]at e5;omega
      refine .stat (.seq w.heap.size 0 n cap _ _ (λi j=>ee.getD (i*Y.size+j) undef) (.inr rfl) bk (λi hi j hj=>?_) λi hi j hj=>?_)
      . have f7:=xn Y.size bk
        have :=lt i hi j hj
        rw[xw];exact nq ch (by rw[g2];omega)
      . have⟨uu,b4,b6⟩:=h7 i hi j hj
        have :ee.getD (i*Y.size+j) undef=uu:=by
         rw[<- g1,y5 (lt i hi j hj),ym]at b4
         rw[xb,b4];rfl
        rw[this];exact b6.keep V λ_ s=> .inl s
 split at M
 . -- nil
   rename_i K
   simp only[xa]at K
   have es:=ex.aL _ _ K.1
   have b5:∀ p∈ps,p:=λp hp=>a2 p (by(repeat' split at M)<;>(cases M;simp[hp]))
   have d7:vx= .slice none 0 0:=by cases hV with |stat hV=>cases hV;rfl
   have go:=λ(hh:(m:Int)*tl.bytes<=140737488355328/\m<=9223372036854775807)=>zdr (ty:=o.type) hT d2 hu es (World.ownsRow_nil w 0 Z Y.size) (hs b5) O (by rw[xw];exact hh.1) (xt _)
   split at M
   . cases M
     have⟨X,w',N,E,h4,h5,H,h7⟩:=go (a2 _ ap)
     rw[<- d7,b0]at E
     rw[xw,List.nil_append]at h4
     exact a7 E h4 h5 H h7 J rfl
   . split at M
     . cases M
       have⟨X,w',N,E,h4,h5,H,h7⟩:=go (a2 _ ap)
       rw[<- d7,b0]at E
       rw[xw,List.nil_append]at h4
       exact a9 E h4 h5 H h7 J rfl
     . cases M
       obtain rfl:m=0:=a2 _ ap
       have⟨A,c2,d8,_⟩:=hs b5
       have⟨dd,ie,z,f1,c4,e4,d6,hz,e2,_,ej⟩:=Tl.info
       have E:(Builtin.append_ #[t,t] o.type #[a.eval x,a.eval y]).run C.P w= .ok (.slice none 0 0) w:=by
        rw[<- b0,d7,d8]
        cases A<;>simp[Builtin.append_,run_underlying hu,sizeOf,typeInfo,c4,Builtin.lenOf,Builtin.firstCells,loadCells,loadCellsFrom]
       simp only[zx,xq]at J
       subst J
       exact fin E (hn _ w F φ h λ_=> .stat .ax)
 . -- full
   rename_i sh n f K
   simp only[xa]at K
   have es:=ex.aL _ _ K.1
   split at M
   case h_2=>cases M
   rename_i d3
   have e0:=ex.aL _ _ d3
   subst e0
   obtain⟨o0,o1,o2⟩:0<m/\((n+m:Nat):Int)*tl.bytes<=140737488355328/\n+m<=9223372036854775807:=a2 _ (by split at M<;>(cases M;simp))
   have b5:∀ p∈ps,p:=λp hp=>a2 p (by split at M<;>(cases M;simp[hp]))
   have⟨dd,ie,z,f1,c4,e4,d6,hz,e2,_,ej⟩:=Tl.info
   have ck:=Tl.pos
   have⟨A2,c2,N,d8,bh,g6,f5,gc⟩:=zb4 (hs b5) (by rw[es];exact ck)
   obtain⟨ad,rfl,bk⟩:=g6 o0
   have⟨A1,c1,R,e8,a3,eb,f6,ge⟩:=zb4 (Za (.inr hV)) (by rw[es];exact ck)
   have e6:c1=n:=by
    rw[e8]at hV
    cases hV with
    |stat hV=>cases hV<;>rfl
   subst e6
   have e7:(c1+m)*tl.bytes<=140737488355328:=by
    have :(((c1+m)*tl.bytes:Nat):Int)<=140737488355328:=by rw[Int.natCast_mul];exact o1
    omega
   have fd:=grownCap_ge w (c1+m) c1 Z
   have fh:grownCap w (c1+m) c1 Z<=maxLen:=grownCap_le_maxLen w (c1+m) c1 Z (by unfold maxLen;omega)
   have bd:ie.size=sh.size:=by rw[e4,es]
   have done:(Builtin.append_ #[t,t] o.type #[a.eval x,a.eval y]).run C.P w= .ok (.slice (some ⟨w.heap.size,0,none⟩) (c1+m) (grownCap w (c1+m) c1 Z)) (w.drew.alloc (.cells (R.toArray++N.toArray++Builtin.zeroCells z.cells (grownCap w (c1+m) c1 Z - (c1+m))) Z)):=by
    have g8:a.eval x= .slice A1 c1 c1:=b0.symm.trans e8
    rw[d8,g8]
    cases A1 with
    |some b1=>
     refine run_append_grow (P:=C.P) w t o.type Z ie z hu c4 hz b1 c1 c1 R (by rw[a3,bd]) (λj u hj=>?_) ad m c2 N (by rw[bh,bd]) bk O O (growslice_fits O (by rw[d6];exact e7))
     rcases wi c1 with h0 |h0
     . subst h0
       have :R=[]:=xz (by simpa using a3)
       subst this;simp at hj
     . have⟨ga,e1,ch⟩:=eb h0
       cases e1
       exact ch j u hj
    |none=>
     have h0:c1=0:=by
      rcases wi c1 with h0 |h0
      . exact h0
      . have⟨ga,e1,_⟩:=eb h0;cases e1
     subst h0
     have h0:R=[]:=xz (by simpa using a3)
     subst h0
     have g3:m*ie.bytes<=281474976710656:=by rw[d6];have h9:=e7;rw[xw]at h9;exact yd h9 am
     have f8:(m:Int)<=9223372036854775807:=by rw[xw]at o2;exact Int.ofNat_le.2 o2
     have :=run_append_nil (P:=C.P) w t o.type Z ie z hu c4 hz ad m c2 N (by rw[bh,bd]) bk o0 f8 g3
     simpa using this
   have gr:w.grownBy (w.drew.alloc (.cells (R.toArray++N.toArray++Builtin.zeroCells z.cells (grownCap w (c1+m) c1 Z - (c1+m))) Z)) none:=⟨rfl,rfl,rfl,ap,λk s _=>Below.heap_alloc w.drew _ k s⟩
   have ed:=zaj a3 f6 f5
   have ci:(w.drew.alloc (.cells (R.toArray++N.toArray++Builtin.zeroCells z.cells (grownCap w (c1+m) c1 Z - (c1+m))) Z)).ownsRow 0 Z sh.size (.slice (some ⟨w.heap.size,0,none⟩) (c1+m) (grownCap w (c1+m) c1 Z)) (c1+m) (R++N):=by
    refine⟨by rw[xl,a3,bh,y7], .inr ⟨w.heap.size,_,_,rfl,xt _,heap_alloc_new w.drew _,fd,fh, ?_, ?_⟩⟩
    . simp only[Array.size_append,List.size_toArray,size_zeroCells,e2,a3,bh,<- es,<- y7]
      congr 1
      omega
    . simp only[jc,wq]
      have :(c1+m)*sh.size=(R++N).length:=by rw[xl,a3,bh,y7]
      rw[<- wq,this]
      exact List.take_left
   split at M
   . cases M;exact a7 done ci gr (.inr rfl) ed J rfl
   . cases M;exact a9 done ci gr (.inr rfl) ed J rfl
 . -- the call's own
   rename_i b n K
   simp only[xa]at K
   have es:=ex.aL _ _ K.1
   split at M
   case h_2=>cases M
   rename_i ty sh n' f hb
   split at M
   case h_2=>cases M
   rename_i d1
   simp only[xa]at d1
   have⟨⟨k1,k2⟩,k4⟩:=d1
   have e1:=xc k1
   have e0:=ex.aL _ _ k2
   subst e1 e0
   cases M
   obtain⟨o0,o1,o2⟩:n=n'/\((n+m:Nat):Int)*tl.bytes<=140737488355328/\n+m<=9223372036854775807:=a2 _ ap
   subst o0
   have⟨xs,d0,a1,f0⟩:=zml (h.heap b _ hb) hV rfl
   have⟨X,w',N,E,h4,h5,H,h7⟩:=zdr (ty:=o.type) hT d2 hu es d0 (hs λp hp=>a2 p (by simp[hp])) o2 o1 (xt _)
   rw[b0]at E
   refine fin E ?_
   simp only[zx,xq]at J
   subst J
   have g5:∀ k,X.ownBlock=some k ->¬ F k:=by
    intro k s hF
    rcases H with H |H
    . rw[H]at s;exact((h.heap b _ hb).lt (a1 k s)).2.1 hF
    . rw[H]at s;cases s;have :=h.ro _ hF;omega
   have V:∀ k,F k ->w'.heap[k]? =w.heap[k]? :=λk s=>h5.block k (h.ro k s) λe=>((h.heap b _ hb).lt (a1 k e.symm)).2.1 s
   have⟨pl,p1,p2,p3,p4⟩:=z5h (F:=F) (B:=W0.B) (base:=0) (b:=b) (f:=λi=>if i<n then f i else g (i - n)) h4 (λk s=>by
    rcases H with H |H
    . rw[H]at s;exact((h.heap b _ hb).lt (a1 k s)).2.2
    . rw[H]at s;cases s;exact h.nP (xm _)) g5 (λi hi j hj=>by
    have⟨uu,b4,b6⟩:=zaj d0.1 f0 h7 i hi j hj
    exact⟨uu,b4,b6.keep V λ_ s=>s⟩)
   have⟨B1,B2⟩:=p4 (λk=>if k=b then pl else φ k) ap
   refine hn X w' F _ (h.uL hb h5 rfl (λgg hg=>a1 gg hg) pl (λgg hg=>?_) B1) λ_=>B2
   rw[p1]at hg
   rcases H with H |H
   . rw[H]at hg;exact .inl (a1 gg hg)
   . rw[H]at hg;cases hg;exact .inr (xm _)
 . cases M
end
section
variable {C:ls} {W0:lw} {F0:Nat ->Prop} {st st':St} {a:Act} {w:World} {F:Nat ->Prop} {φ:Nat ->Place} {e:Operand ->Option AV} {dst:Option Nat} {b9:FuncId ->List AV ->Option AV} {CC:FuncId ->List AV ->AV ->Prop} {r:iT} {o:Oper}
 {next:Act ->World ->Prop} {Q:Exit ->Act ->World ->Prop}
theorem zk5 {c:Call} {x y:Operand} {t t':TypeId} {te:cN} {b o0 n:Nat} {u:AV} {el:TypeId} {tl:cN} {ty:TypeId} {sh:ex} {n':Nat} {f f':Nat ->AV} {su:ex} {m:Nat} {g:Nat ->AV}
 (h:li C W0 F0 st a w F φ) (hT:gn C) (ho:o.op= .call c) (hc:c.callee= .builtin .copy) (hargs:c.args.toList=[x,y]) (htys:c.argTypes.toList=[t,t']) (h1:aU C t=some te) (hkind:te.kind= .slice el) (htl:aU C el=some tl)
 (hb:get st.heap b=some (.row ty sh n' f)) (hsrc:(match u with | .seq su m g | .bD su m g=>some (su,m,g) | .ax=>some (tl.sh,0,λ_=>AV.any) |_=>none:Option (ex×Nat×(Nat ->AV)))=some (su,m,g))
 (es:su=tl.sh) (es2:sh=tl.sh) (hU:aG w F φ (a.eval y) u) (o2:(n:Int)<=9223372036854775807)
 (hV:(∃ gb p cap0,(φ b).bV=some gb/\o0+n<=(φ b).cap/\(p=o0*(φ b).sh.size∨n=0/\p=0)/\a.eval x= .slice (some ⟨gb,p,none⟩) n cap0)∨((φ b).bV=none/\n=0/\a.eval x= .slice none 0 0))
 (hf:∀ i,f' i=if o0<=i/\i<o0+min m n then g (i - o0)else f i)
 (hn:Next C W0 F0 {st with heap:=put st.heap b (.row ty sh n' f')} a o (.int .i64 ((min m n:Nat):Int)) next):o.wp C.P a w next Q:=by
 have ea:c.args=#[x,y]:=by rw[<- g7 (xs:=c.args),hargs]
 have et:c.argTypes=#[t,t']:=by rw[<- g7 (xs:=c.argTypes),htys]
 have T:=hT _ _ h1
 have Tl:=hT _ _ htl
 have hu:=RD T hkind
 have hs:PB w F (a.eval y) su m g:=by
  cases u<;>simp only[xq,yn,reduceCtorEq]at hsrc
  . obtain⟨rfl,rfl,rfl⟩:=hsrc;exact zk4 hU
  . obtain⟨rfl,rfl,rfl⟩:=hsrc;exact Za (.inl hU)
  . obtain⟨rfl,rfl,rfl⟩:=hsrc;exact Za (.inr hU)
 have hpos:=Tl.pos
 have⟨A,cp,news,hUv,hl,hA,hnw,hone⟩:=zb4 hs (by rw[es];exact hpos)
 have hin:aM .i64 ((min m n:Nat):Int):=zes (by omega)
 have fin:∀ {w':World},(Builtin.copy_ #[t,t'] o.type #[a.eval x,a.eval y]).run C.P w= .ok (.int .i64 ((min m n:Nat):Int)) w' ->li C W0 F0 {st with heap:=put st.heap b (.row ty sh n' f')} a w' F φ ->o.wp C.P a w next Q:=by
  intro w' hrun hR
  unfold Oper.wp
  have :(execOp a.eval o).run C.P w= .ok (.value (.int .i64 ((min m n:Nat):Int))) w':=by
   refine UU ho hc ?_
   rw[ea,et]
   simp only[builtin,Sem.run_bind]
   have :(#[x,y].map a.eval)=#[a.eval x,a.eval y]:=ap
   rw[this,hrun]
   rfl
  rw[this]
  exact hn _ w' F φ hR λ_=> .stat (.int _ _ hin)
 have hsz2:(sizeOf el).run C.P w= .ok tl.sh.size w:=Tl.size
 have⟨hsh,hty,hrow⟩:=h.heap b _ hb
 -- the cells that are read
 have hfc:(Builtin.firstCells tl.sh.size (min m n) (a.eval y)).run C.P w= .ok ((news.take (min m n*tl.sh.size)).toArray) w:=by
  rw[hUv]
  cases A with
  |none=>
   have h0:m=0:=by
    rcases wi m with h0 |h0
    . exact h0
    . have⟨ad,e,_⟩:=hA h0;cases e
   subst h0
   have :news=[]:=xz (by simpa using hl)
   subst this
   simp[Builtin.firstCells]
  |some ad=>
   have hlen:(news.take (min m n*tl.sh.size)).length=min m n*tl.sh.size:=by
    have :min m n*tl.sh.size<=m*tl.sh.size:=xn _ (Nat.min_le_left _ _)
    rw[xr,hl,es];omega
   simp only[Builtin.firstCells]
   have hrl:=run_loadCells_list (P:=C.P) w ad (news.take (min m n*tl.sh.size)) λj v hj=>by
    rcases wi m with h0 |h0
    . subst h0
      have :news=[]:=xz (by simpa using hl)
      subst this;simp at hj
    . have⟨ad',e,hcs⟩:=hA h0
      cases e
      rw[List.getElem?_take]at hj
      split at hj
      . exact hcs j v hj
      . cases hj
   rw[hlen]at hrl
   exact hrl
 have key:∀ {base:Option Addr} {cap:Nat},a.eval x= .slice base n cap ->(Builtin.copy_ #[t,t'] o.type #[a.eval x,a.eval y]).run C.P w=
  ((match base with |some ad=>storeCells ad (news.take (min m n*tl.sh.size)) |none=>pure ()).run C.P w).andThen λ_ w'=> .ok (.int .i64 ((min m n:Nat):Int)) w':=by
  intro base cap hv
  have hU2:=hUv
  rw[hv]
  simp only[Builtin.copy_,List.getElem?_toArray,List.getElem?_cons_zero,List.getElem?_cons_succ,Sem.run_bind,run_underlying hu,Result.andThen_ok]
  have hlo:(Builtin.lenOf (a.eval y)).run C.P w= .ok m w:=by rw[hUv];rfl
  rw[hlo]
  simp only[Result.andThen_ok]
  have :Nat.min m n=min m n:=rfl
  rw[this,hsz2]
  simp only[Result.andThen_ok]
  rw[hfc]
  simp only[Result.andThen_ok]
  cases base<;>simp[goInt]
 rcases hV with⟨gb,p0,cap0,hg,hnc,hp0,hv⟩ | ⟨hg,h0,hv⟩
 . rcases hrow with⟨h4,_⟩ | ⟨g',cs,hg',hbase,hnF,hh,hsz,hncap,hmax,hrep⟩
   . rw[hg]at h4;cases h4
   obtain rfl:g'=gb:=by rw[hg]at hg';injection hg' with e;exact e.symm
   have hlen:(news.take (min m n*tl.sh.size)).length=min m n*tl.sh.size:=by
    have :min m n*tl.sh.size<=m*tl.sh.size:=xn _ (Nat.min_le_left _ _)
    rw[xr,hl,es];omega
   have hle:p0+min m n*tl.sh.size<=cs.size/\(p0=o0*tl.sh.size∨min m n*tl.sh.size=0):=by
    rw[hsz,es2]
    rcases hp0 with e | ⟨e,e'⟩
    . rw[hsh,es2]at e
      have h9:(o0+min m n)*tl.sh.size<=(φ b).cap*tl.sh.size:=xn _ (yd (Nat.add_le_add_left (Nat.min_le_right m n) o0) hnc)
      rw[y7]at h9
      exact⟨by omega, .inl e⟩
    . subst e e';simp
   have hsc:=run_storeCells_at (P:=C.P) g' p0 ty (news.take (min m n*tl.sh.size)) 0 cs w hh (by rw[hlen];omega) (λv hv=>hone v (List.mem_of_mem_take hv))
   rw[wd,hlen]at hsc
   refine fin (w':=w.setRow g' (cs.toList.take p0++news.take (min m n*tl.sh.size)++cs.toList.drop (p0+min m n*tl.sh.size)).toArray) ?_ ?_
   . rw[key hv,hsc]
     rfl
   . have hna:((news.take (min m n*tl.sh.size)).toArray).size=min m n*tl.sh.size:=by simpa using hlen
     have hsp:(cs.toList.take p0++news.take (min m n*tl.sh.size)++cs.toList.drop (p0+min m n*tl.sh.size))=(cs.toList.take p0++(news.take (min m n*tl.sh.size)).toArray.toList++cs.toList.drop (p0+min m n*tl.sh.size)):=ap
     rw[hsp]
     refine h.mP hb hg rfl rfl rfl ap (λk hk=>pC hk) rfl ⟨hsh,hty, .inr ⟨g',_,hg,hbase,hnF,setRow_heap w g' cs _ _ _ hh,by rw[z68 hna (by omega)];exact hsz,hncap,hmax,λi hi j hj=>?_⟩⟩
     rw[z7m hna (by omega)]
     refine au.keep (w:=w) (F:=F) ?_ (λk hk=>pC λe=>hnF (e ▸ hk)) (λ_ hk=>hk)
     by_cases hik:o0<=i/\i<o0+min m n
     . have hmul:(i - o0+1)*tl.sh.size<=min m n*tl.sh.size:=xn _ (by omega)
       have hio:i*tl.sh.size=o0*tl.sh.size+(i - o0)*tl.sh.size:=by rw[<- y7];congr 1;omega
       rw[y7]at hmul
       rw[es2]at hj ⊢
       have hp1:p0=o0*tl.sh.size:=hle.2.resolve_right (by omega)
       rw[x9 (by omega),hf i,x9 hik,show i*tl.sh.size+j - p0=(i - o0)*tl.sh.size+j from by omega]
       have⟨uu,hu1,hu2⟩:=hnw (i - o0) (by omega) j (by rw[es];exact hj)
       rw[es]at hu1 hu2
       rw[xb,List.getElem?_toArray,y5 (by omega),hu1]
       exact hu2
     . have hout:¬ (p0<=i*sh.size+j/\i*sh.size+j<p0+min m n*tl.sh.size):=by
        rw[es2]at hj ⊢
        rcases hle.2 with e |e
        . rcases kb i o0 with h8 |h8
          . have :=xn tl.sh.size (show i+1<=o0 from h8)
            rw[y7]at this;omega
          . have :=xn tl.sh.size (show o0+min m n<=i by omega)
            rw[y7]at this;omega
        . omega
       rw[x8 hout,hf i,x8 hik]
       exact hrep i hi j hj
 . subst h0
   refine fin (w':=w) ?_ ?_
   . rw[key hv];rfl
   . refine⟨h.env,λb' c1 hc1=>?_, ?_,h.ro,h.base,h.sub,h.new,h.dfr,h.iC,h.ol,λb' p hp=>?_⟩
     . by_cases e:b'=b
       . subst e
         rw[zv]at hc1
         cases hc1
         refine⟨hsh,hty, ?_⟩
         rcases hrow with h4 | ⟨g',cs,hg',_⟩
         . exact .inl h4
         . rw[hg]at hg';cases hg'
       . rw[zb _ _ _ _ e]at hc1
         exact h.heap b' c1 hc1
     . intro b1 b2 c1 c2 g2 k1 k2 k3 k4
       have i1:∃ c1',get st.heap b1=some c1':=by
        by_cases e:b1=b
        . exact⟨_,e ▸ hb⟩
        . rw[zb _ _ _ _ e]at k1;exact⟨c1,k1⟩
       have i2:∃ c2',get st.heap b2=some c2':=by
        by_cases e:b2=b
        . exact⟨_,e ▸ hb⟩
        . rw[zb _ _ _ _ e]at k2;exact⟨c2,k2⟩
       have⟨c1',i1⟩:=i1
       have⟨c2',i2⟩:=i2
       exact h.inj b1 b2 c1' c2' g2 i1 i2 k3 k4
     . have⟨a1,a2,a3⟩:=h.gV b' p hp
       refine⟨a1,a2,λc1 hc1=>?_⟩
       by_cases e:b'=b
       . subst e;exact absurd (a3 _ hb) (by simp[ar.isRow])
       . rw[zb _ _ _ _ e]at hc1;exact a3 c1 hc1
theorem zzo {c:Call} (h:li C W0 F0 st a w F φ) (hT:gn C) (Y:o.op= .call c) (V:c.callee= .builtin .copy) (k:zl C st e o.dst b9 CC (.call c)=some r)
 (X:∀ x∈c.args.toList,∀ u,e x=some u ->aG w F φ (a.eval x) u) (U:∀ p∈r.iD,p) (M:zx st o.dst r.gP=some st') (Z:Next C W0 F0 st' a o r.val next):o.wp C.P a w next Q:=by
 simp only[zl,V]at k
 split at k
 case h_2=>cases k
 rename_i x y t t' i E
 split at k
 case h_3=>cases k
 all_goals
  rename_i h1 a2 h2 h3
  split at k
  case h_2=>cases k
  rename_i el a3 s R
  split at k
  case h_2=>cases k
  rename_i tl ty sh n' f K a1 hb
  split at k
  case h_2=>cases k
  rename_i su m g H
  split at k
  case h_2=>cases k
  rename_i j
  simp only[xa]at j
  have es:=ex.aL _ _ j.1
  have N:=ex.aL _ _ j.2
  cases k
  have hV:=X x (by rw[i];simp) _ h2
  have hU:=X y (by rw[i];simp) _ h3
  simp only[zx,xq]at M
  subst M
  have J:=U _ (jt.2 rfl)
 . refine zk5 h hT Y V i E h1 s K hb H es N hU J.2 (o0:=0) ?_ (λi=>?_) Z
   . rcases hV.dw with⟨gb,hg,hv,hnc⟩ | ⟨hg,h0,hv⟩
     . grind
     . exact .inr ⟨hg,h0,hv⟩
   . grind
 . refine zk5 h hT Y V i E h1 s K hb H es N hU J.2 ?_ (λi=>rfl) Z
   rcases hV.ij with⟨gb,p,hg,hnc,_,hp,hv⟩ | ⟨hg,_,h0,hv⟩
   . exact .inl ⟨gb,p,_,hg,hnc,hp,hv⟩
   . exact .inr ⟨hg,h0,hv⟩
end
end Go.AV
namespace Go.AV
open Go.RowKit
theorem zzp (n:Nat ->Nat) (x:AV):(x.sub n).b8=x.b8:=by cases x<;>rfl
theorem zmm (n:Nat ->Nat) (x:AV):eC (x.sub n)=(eC x).sub n:=by
 unfold eC;rw[zzp];split<;>rfl
theorem znh {x:AV} (h:x.b8=true):x.dm=true:=by cases x<;>first |rfl | (simp[AV.b8]at h)
mutual
theorem ZZ:∀ (sh:ex) (x:AV) (j:Nat),(z6 sh x j).dm=true
 | .ey,x,j=>by
  simp[z6,eC];split;rename_i h;exact znh h;rfl
 | .agg f,x,j=>by
  cases x with
  |agg e=>simp[z6];exact z8x f e j
  |_=>rfl
 | .arr n s,x,j=>by cases x<;>rfl
theorem z8x:∀ (f:List ex) (e:List AV) (j:Nat),(zh f e j).dm=true
 |s::f,x::e,j=>by
  simp[zh];split;exact ZZ s x j;exact z8x f e _
 | [],_,_=>rfl
 |_::_,[],_=>rfl
end
mutual
theorem z50 (n:Nat ->Nat):∀ (sh:ex) (x:AV) (j:Nat),z6 sh (x.sub n) j=(z6 sh x j).sub n
 | .ey,x,j=>by simp only[z6];exact zmm n x
 | .agg f,x,j=>by
  cases x with
  |agg e=>simp[AV.sub];exact zbw n f e j
  |_=>rfl
 | .arr m s,x,j=>by cases x<;>rfl
theorem zbw (n:Nat ->Nat):∀ (f:List ex) (e:List AV) (j:Nat),zh f (AV.kJ n e) j=(zh f e j).sub n
 |s::f,x::e,j=>by
  simp[zh,AV.kJ];split;exact z50 n s x j;exact zbw n f e _
 | [],e,j=>by cases e<;>rfl
 |_::_,[],_=>rfl
end
mutual
theorem z3w (m:Nat ->Bool):∀ (sh:ex) (x:AV) (j:Nat),x.eh m=true ->(z6 sh x j).eh m=true
 | .ey,x,j,h=>by
  simp[z6,eC];split;exact h;rfl
 | .agg f,x,j,h=>by
  cases x with
  |agg e=>simp[z6];exact z8y m f e j (by simpa [AV.eh]using h)
  |_=>rfl
 | .arr n s,x,j,h=>by cases x<;>rfl
theorem z8y (m:Nat ->Bool):∀ (f:List ex) (e:List AV) (j:Nat),AV.fG m e=true ->(zh f e j).eh m=true
 |s::f,x::e,j,h=>by
  simp[zh];simp[AV.fG]at h;split;exact z3w m s x j h.1;exact z8y m f e _ h.2
 | [],_,_,_=>rfl
 |_::_,[],_,_=>rfl
end
section
variable {w:World} {F:Nat ->Prop} {φ φ2:Nat ->Place} {n:Nat ->Nat} {m:Nat ->Bool}
theorem zb5 (s:∀ b,m b=true ->φ2 (n b)=φ b) {v:Value} {y:AV} (hl:y.dm=true) (r:y.eh m) (h:aG w F φ v y):aG w F φ2 v (y.sub n):=by
 cases h with
 |stat h=>cases h<;>first | (simp[AV.dm]at hl;done) |exact .stat (by constructor<;>assumption) |skip
 |st h=>exact .st h
 |own b g k e u=>
  rw[<- s b r]at e u ⊢;exact .own (n b) g k e u
 |gX b e=>
  rw[<- s b r]at e;exact .gX (n b) e
 |ptr b g p e j=>
  rw[<- s b r]at e j ⊢;exact .ptr (n b) g p e j
 |bq b g i p e j=>
  rw[<- s b r]at e j ⊢;exact .bq (n b) g i p e j
 |bJ b g o p k c e u E j=>
  rw[<- s b r]at e u E j ⊢;exact .bJ (n b) g o p k c e u E j
 |iW b c e=>
  rw[<- s b r]at e;exact .iW (n b) c e
 |c8 f x l hs E=>exact .stat (aG.kt (.c8 f x l hs E) r)
 |mc=>simp[AV.dm]at hl
 |av=>simp[AV.dm]at hl
 |eZ=>simp[AV.dm]at hl
theorem zi9 (r:∀ b,m b=true ->φ2 (n b)=φ b) {v:Value} {y:AV} (hl:y.dm=true∨∃ sh x,y= .mc sh x) (i:y.eh m) (h:aG w F φ v y):aG w F φ2 v (y.sub n):=by
 rcases hl with hl | ⟨sh,x,rfl⟩;grind[zb5];simp[AV.eh]at i;cases h with
 |stat h=>
  cases h with
  |mc k _ _ hs e=>exact .mc k sh _ hs λj f=>by rw[z50];exact zb5 r (ZZ sh x j) (z3w m sh x j i) (.stat (e j f))
 |mc k _ _ hs e=>exact .mc k sh _ hs λj f=>by rw[z50];exact zb5 r (ZZ sh x j) (z3w m sh x j i) (e j f)
theorem zet (s:∀ b,m b=true ->φ2 (n b)=φ b) {v:Value} {y:AV} (hl:y.dm=true) (r:y.eh m) (h:aG w F φ2 v (y.sub n)):aG w F φ v y:=by
 cases y with
 |own b k=>
  cases h with
  |stat h=>cases h
  |own _ g _ e u=>rw[s b r]at e u ⊢;exact .own b g k e u
  |gX _ e=>rw[s b r]at e;exact .gX b e
 |ptr b p=>
  cases h with
  |stat h=>cases h
  |ptr _ g _ e j=>rw[s b r]at e j ⊢;exact .ptr b g p e j
 |bq b i p=>
  cases h with
  |stat h=>cases h
  |bq _ g _ _ e j=>rw[s b r]at e j ⊢;exact .bq b g i p e j
 |bJ b o k c=>
  cases h with
  |stat h=>cases h
  |bJ _ g _ p _ _ e u x j=>rw[s b r]at e u x j ⊢;exact .bJ b g o p k c e u x j
  |iW _ _ e=>rw[s b r]at e;exact .iW b c e
 |c8 f l=>exact .stat (h.kt r)
 |agg=>simp[AV.dm]at hl
 |arr=>simp[AV.dm]at hl
 |mc=>simp[AV.dm]at hl
 |av=>simp[AV.dm]at hl
 | «when» =>simp[AV.dm]at hl
 |_=>exact .stat (h.kt rfl)
theorem zni (r:∀ b,m b=true ->φ2 (n b)=φ b) {v:Value} {y:AV} (hl:y.dm=true∨∃ sh x,y= .mc sh x) (i:y.eh m) (h:aG w F φ2 v (y.sub n)):aG w F φ v y:=by
 rcases hl with hl | ⟨sh,x,rfl⟩;grind[zet];simp[AV.eh]at i;cases h with
 |stat h=>
  cases h with
  |mc k _ _ hs e=>
   refine .mc k sh _ hs λj f=>?_;have :=e j f;rw[z50]at this;exact zet r (ZZ sh x j) (z3w m sh x j i) (.stat this)
 |mc k _ _ hs e=>
  refine .mc k sh _ hs λj f=>?_;have :=e j f;rw[z50]at this;exact zet r (ZZ sh x j) (z3w m sh x j i) this
theorem z8z {y:AV} (h:zsg y):y.dm=true∨∃ sh x,y= .mc sh x:=by
 cases y<;>first |exact .inl h |exact .inr ⟨_,_,rfl⟩
theorem z5i:∀ {l:List AV} {j:Nat},z9x l=true ->j<l.length ->zsg (l.getD j .any)=true
 |x::l,0,h,_=>by simp only[z9x,xa]at h;simpa using h.1
 |x::l,j+1,h,e=>by simp[z9x]at h;simpa using z5i h.2 (by simpa using e)
 | [],_,_,e=>by simp at e
theorem z69 {m:Nat ->Bool}:∀ {l:List AV} {j:Nat},AV.fG m l=true ->j<l.length ->(l.getD j .any).eh m=true
 |x::l,0,h,_=>by simp only[AV.fG,xa]at h;simpa using h.1
 |x::l,j+1,h,e=>by simp[AV.fG]at h;simpa using z69 h.2 (by simpa using e)
 | [],_,_,e=>by simp at e
theorem z90 (n:Nat ->Nat):∀ (l:List AV) (j:Nat),j<l.length ->(AV.kJ n l).getD j .any=(l.getD j .any).sub n
 |x::l,0,_=>rfl
 |x::l,j+1,e=>by simpa [AV.kJ]using z90 n l j (by simpa using e)
 | [],_,e=>by simp at e
theorem z7p (n:Nat ->Nat):∀ l:List AV,(AV.kJ n l).length=l.length
 | []=>rfl
 |x::l=>by simp[AV.kJ,z7p n l]
theorem zia (k:∀ b,m b=true ->φ2 (n b)=φ b) {v:Value} {y:AV} (f:tC m y) (h:aG w F φ v y):aG w F φ2 v (y.sub n):=by
 cases y with
 |av l=>
  simp[tC]at f;cases h with
  |stat h=>cases h
  |av i _ hs r=>
   refine .av i _ (by rw[z7p];exact hs) λj e=>?_;rw[z7p]at e;rw[z90 n l j e];exact zi9 k (z8z (z5i f.1 e)) (z69 f.2 e) (r j e)
 |_=>
  grind[tC,zi9,z8z]
theorem zzq (r:∀ b,m b=true ->φ2 (n b)=φ b) {v:Value} {y:AV} (f:tC m y) (h:aG w F φ2 v (y.sub n)):aG w F φ v y:=by
 cases y with
 |av l=>
  simp[tC]at f;cases h with
  |stat h=>cases h
  |av k _ hs i=>
   rw[z7p]at hs i;refine .av k _ hs λj e=>?_;have :=i j e;rw[z90 n l j e]at this;exact zni r (z8z (z5i f.1 e)) (z69 f.2 e) this
 |_=>
  grind[tC,zni,z8z]
end
def K6 (P:Program) (G:List (Nat×AV)) (f:FuncId) (args:List AV) (r:AV) (cs:List ar):Prop:=
 ∀ (w:World) (F:Nat ->Prop) (vs:Array Value),(∀ k,F k ->k<w.heap.size) ->(∀ g x,get G g=some x ->au w F (.pointer (some ⟨g,0,none⟩)) x) ->vs.size=args.length ->
  (∀ j,j<args.length ->au w F (vs.getD j undef) (args.getD j .any)) ->
  Calls P f vs w λen m=>∃ v e h,en= .returned v/\Below w.heap.size w m/\(∀ k,F k ->e k)/\(∀ k,e k ->F k∨w.heap.size<=k)/\(∀ k,e k ->k<m.heap.size)/\aG m e h v r/\
   (∀ i c,cs[i]? =some c ->z24 m e h (λk=>w.heap.size<=k) i c)/\∀ i s g,i<cs.length ->s<cs.length ->(h i).bV=some g ->(h s).bV=some g ->i=s
section
variable {w:World} {F:Nat ->Prop} {φ φ2:Nat ->Place} {n:Nat ->Nat} {m:Nat ->Bool} {B:Nat ->Prop}
end
section
variable {C:ls} {W0:lw} {F0:Nat ->Prop} {st st':St} {a:Act} {w:World} {F:Nat ->Prop} {φ:Nat ->Place} {CC:FuncId ->List AV ->AV ->Prop} {o:Oper} {b9:FuncId ->List AV ->Option AV}
 {e:Operand ->Option AV} {next:Act ->World ->Prop} {r:iT} {Q:Exit ->Act ->World ->Prop}
theorem z24.base {base base':Nat ->Prop} {b:Nat} {c:ar} (h:z24 w F φ base b c) (u:∀ k,base k ->base' k):z24 w F φ base' b c:=by
 cases c with
 |cell y sh x=>
  have⟨i,g,s,r,m,j⟩:=h;exact⟨i,g,s,r,u _ m,j⟩
 |row ty sh n f=>
  have⟨i,e,h⟩:=h;refine⟨i,e, ?_⟩;rcases h with h | ⟨g,s,r,m,j⟩;exact .inl h;grind
theorem li.pP (h:li C W0 F0 st a w F φ) {d:Nat} {c:ar} (N:jL st d) (hc:c.names d=false) (i:Place)
 (hB:z24 w F (λk=>if k=d then i else φ k) W0.B d c) (hd:∀ g,i.bV=some g ->∀ b J,get st.heap b=some J ->(φ b).bV≠some g):
 li C W0 F0 {st with heap:=put st.heap d c} a w F (λk=>if k=d then i else φ k):=by
 simp only[jL,xi,xg]at N;have⟨Z,Y,fl⟩:=N;refine⟨λs x hs=>?_,λb J f=>?_, ?_,h.ro,h.base,h.sub,h.new,h.dfr,h.iC,h.ol,zi0 h.gV fl⟩;have⟨v,U,V⟩:=h.env s x hs;refine⟨v,U,V.keep (λ_ _=>rfl) (λ_ y=>y) λb m=>nT φ d i λe=>?_⟩;subst e;rw[Tp hs Z]at m;cases m;by_cases e:b=d;subst e;rw[zv]at f;grind;rw[zb _ _ _ _ e]at f;have m:=h.heap b J f;refine m.keep (λ_ _=>rfl) (λ_ y=>y) (λg X=>⟨rfl,(m.lt X).2.1⟩) (nT φ d i e) λb' j=>nT φ d i λe=>?_;subst e;rw[(Og f Y).1]at j;cases j;intro b K c1 c2 g H E R Q;by_cases e:b=d;by_cases u:K=d;omega;rw[zb _ _ _ _ u]at E;grind;by_cases u:K=d;rw[zb _ _ _ _ e]at H;grind;rw[zb _ _ _ _ e]at H;rw[zb _ _ _ _ u]at E;simp[e]at R;simp[u]at Q;exact h.inj b K c1 c2 g H E R Q
theorem zby {fx:Operand} {dst:Option Nat} {f d:Nat} (h:kx C fx dst=some (f,d)):fx= .func f/\dst=some d/\C.mU f d=true:=by
 unfold kx at h;grind
theorem aek {c:Call} {fx:Operand} {f d:Nat} {E:List AV} (h:li C W0 F0 st a w F φ) (ho:o.op= .call c) (hc:c.callee= .value fx) (Y:kx C fx o.dst=some (f,d)) (ha:kz e c.args.toList=some E) (H:zjy C f d E=some r)
 (hx:∀ x∈c.args.toList,∀ u,e x=some u ->aG w F φ (a.eval x) u) (X:∀ p∈r.iD,p)
 (R:∀ f E r cs,C.nU f E r cs ->jH C.P f/\K6 C.P C.G f E r cs)
 (i:zx st o.dst r.gP=some st') (hn:Next C W0 F0 st' a o r.val next):o.wp C.P a w next Q:=by
 obtain⟨rfl,hd,_⟩:=zby Y
 unfold zjy at H
 split at H
 case h_2=>cases H
 rename_i rv ty sh n g ad
 split at H
 case h_2=>cases H
 rename_i M
 cases H
 simp only[xa]at M
 have⟨J,m⟩:=M
 rw[hd]at i
 simp only[zx]at i
 split at i
 case h_2=>cases i
 rename_i s
 simp only[xa,xi]at s
 cases i
 have⟨V,y⟩:=R f E rv [.row ty sh n g] (X _ ap)
 have⟨n1,n2⟩:=z7o ha hx
 have K:(execOp a.eval o).run C.P w= .ok (.enter f (c.args.map a.eval)) w:=by
  have⟨callee,a5,a9⟩:=c
  cases hc
  have Z:a.eval (.func f)= .func (.func f) #[] #[]:=rfl
  simp only[execOp,ho,resolve,Sem.run_bind,Z]
  simp only[Deferred.ofValue,Sem.run_pure,Result.andThen_ok,invoke,Array.empty_append,Array.append_empty]
  exact V _ w
 unfold Oper.wp
 rw[K]
 show Calls C.P f _ w _
 refine(y w F _ h.ro h.ol (by simpa using n1) λj hj=>?_).mono ?_
 . have :=n2 j hj
   have h5:aG w F φ ((c.args.map a.eval).getD j undef) (E.getD j .any):=ce
   exact h5.kt (ue J j)
 . rintro en w' ⟨v,F',U,rfl,hb,f1,f2,f3,hv,N,a7⟩
   have hR:=h.grown hb f1 f2 f3
   have h0:=N 0 _ rfl
   have a4:z24 w' F' (λk=>if k=d then U 0 else φ k) W0.B d (.row ty sh n g):=by
    have⟨b1,b2,b3⟩:=h0.base (base':=W0.B) λk Y=>h.nP Y
    refine⟨by simpa using b1,by simpa using b2, ?_⟩
    simp only[wu]
    exact b3
   have h1:=hR.pP (d:=d) s.1 s.2 (U 0) a4 λg' hg b c' a1 a3=>by
    have :=(h0.lt hg).2.2
    have :=((h.heap b c' a1).lt a3).1
    omega
   exact hn v w' F' _ h1 λ_=>zia (φ:=U) (n:=λ_=>d) (λb hb=>by
    have a2:b=0:=by
     have :=wo hb
     omega
    subst a2
    simp) m hv
end
end Go.AV
