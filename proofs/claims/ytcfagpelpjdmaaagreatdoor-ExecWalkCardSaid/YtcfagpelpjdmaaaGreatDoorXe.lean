import Derived.Test.YtcfagpelpjdmaaaGreatDoorXd
namespace Go.AV
open Go.RowKit
section
variable {C:bt} {W0:Entry} {F0:Nat ->Prop} {st st':St} {a:Act} {w:World} {F:Nat ->Prop} {φ:Nat ->Place} {e:Operand ->Option AV} {dst:Option Nat} {bb:FuncId ->List AV ->Option AV} {CC:FuncId ->List AV ->AV ->Prop} {r:kq} {o:Oper}
 {next:Act ->World ->Prop} {Q:Exit ->Act ->World ->Prop}
def RO (w:World) (F:Nat ->Prop) (v:Value) (sh:Shape) (m:Nat) (g:Nat ->AV):Prop:=
 ∃ A c,v= .slice A m c/\(0<m ->∃ b o,∃ e:Nat ->Nat ->Value,A=some ⟨b,o,none⟩/\(∀ i,i<m ->∀ j,j<sh.size ->w.cell? ⟨b,o+(i*sh.size+j),none⟩=some (e i j))/\
  (∀ i,i<m ->∀ j,j<sh.size ->ay w F (e i j) (z6 sh (g i) j)))
theorem zbu {v:Value} {sh:Shape} {m:Nat} {g:Nat ->AV} (h:aO w F φ v (.seq sh m g)∨aO w F φ v (.bN sh m g)):RO w F v sh m g:=by
 have⟨A,c,e,hc⟩:=aO.fR h;exact⟨A,c,e,λhm=>by have⟨_,b,o,cs,i,_,h2,f⟩:=hc hm;exact⟨b,o,cs,i,h2,f⟩⟩
theorem zk4 {v:Value} {sh:Shape} {g:Nat ->AV} (h:aO w F φ v .aA):RO w F v sh 0 g:=by
 cases h with
 |stat h=>cases h;exact⟨_,_,rfl,λh=>absurd h ac⟩
theorem zzn (h:Rel C W0 F0 st a w F φ) {v:Value} {b m o:Nat} {ty:TypeId} {sh:Shape} {g:Nat ->AV} (s:aO w F φ v (.own b m)) (y:get st.heap b=some (.row ty sh o g)) (z:m<=o):RO w F v sh m g:=by
 have⟨u,_,f⟩:=h.heap b _ y;rcases s.e9 with⟨gb,hg,rfl,hc⟩ | ⟨hg,h0,rfl⟩
 . rcases f with⟨h1,_⟩ | ⟨g',cs,hg',_,_,hh,hsz,hnc,_,hrep⟩
   . grind
   . obtain rfl:g'=gb:=by rw[hg]at hg';injection hg' with e;exact e.symm
     refine⟨_,_,rfl,λhm0=>⟨g',0,λi j=>cs.getD (i*sh.size+j) undef,rfl,λi x j r=>?_,λi x j r=>hrep i ac j r⟩⟩;have k:(i+1)*sh.size<=(φ b).cap*sh.size:=xn _ ac;rw[yb]at k;rw[xy];exact oW hh ac
 . subst h0;exact⟨_,_,rfl,λh=>absurd h ac⟩
theorem zb4 {v:Value} {sh:Shape} {m:Nat} {g:Nat ->AV} (h:RO w F v sh m g) (e:0<sh.size):∃ A c,∃ f:List Value,v= .slice A m c/\f.length=m*sh.size/\(0<m ->∃ M,A=some M/\∀ j u,f[j]? =some u ->w.cell? (M.add j)=some u)/\
 (∀ i,i<m ->∀ j,j<sh.size ->∃ u,f[i*sh.size+j]? =some u/\ay w F u (z6 sh (g i) j))/\∀ u∈f,u.oneCell'=true:=by
 have⟨A,c,N,O⟩:=h;rcases wo m with K |K
 . simp_all
 . have⟨b,o,J,Q,U,R⟩:=O K;have z:∀ i j,i<m ->j<sh.size ->i*sh.size+j<m*sh.size:=by
    intro i j E s;have x:(i+1)*sh.size<=m*sh.size:=xn _ E;rw[yb]at x;omega
   have H:∀ i j,j<sh.size ->(i*sh.size+j)/sh.size=i/\(i*sh.size+j) % sh.size=j:=by
    intro i j s;rw[j9 i,jp e,jq,jn s,jo s];omega
   have k:∀ q,q<m*sh.size ->((List.range (m*sh.size)).map λq=>J (q/sh.size) (q % sh.size))[q]? =some (J (q/sh.size) (q % sh.size)):=by
    grind
   refine⟨A,c,(List.range (m*sh.size)).map λq=>J (q/sh.size) (q % sh.size),N,be,λ_=>⟨_,Q,λq u r=>?_⟩,λi E j s=>⟨_,k _ (z i j E s), ?_⟩,λu r=>?_⟩
   . have y:q<m*sh.size:=by have :=(wa.1 r).1;simpa using this
     rw[k q y]at r;cases r;rw[BQ];have :=U (q/sh.size) ((Nat.div_lt_iff_lt_mul e).2 y) (q % sh.size) (Nat.mod_lt _ e);rw[j9,Nat.div_add_mod]at this;exact this
   . have⟨W,V⟩:=H i j s;grind
   . simp at r;obtain⟨q,y,rfl⟩:=r;exact ay.gE sh _ _ (R (q/sh.size) ((Nat.div_lt_iff_lt_mul e).2 y) (q % sh.size) (Nat.mod_lt _ e))
theorem Rel.Jl (h:Rel C W0 F0 st a w F φ) {d:Nat} {c:aw} (M:kO st d=true) (Y:c.names d=false) (i:Place)
 (o:∀ b K g,get st.heap b=some K ->(φ b).bY=some g ->i.bY≠some g)
 (Z:z24 w F (λk=>if k=d then i else φ k) W0.B d c):
 Rel C W0 F0 {st with heap:=put st.heap d c} a w F (λk=>if k=d then i else φ k):=by
 simp only[kO,xj,xg]at M
 have⟨X,W,V⟩:=M
 refine⟨λs x hs=>?_,λb K f=>?_, ?_,h.ro,h.base,h.sub,h.new,h.cW,h.fW,h.bZ,zi0 h.gY V⟩
 . have⟨v,Q,R⟩:=h.env s x hs
   refine⟨v,Q,R.keep (λ_ _=>rfl) (λ_ H=>H) λb u=>rb φ d i λe=>?_⟩
   subst e
   rw[z3t hs X]at u;cases u
 . by_cases e:b=d
   . subst e
     rw[zv]at f
     grind
   . rw[zb _ _ _ _ e]at f
     have u:=h.heap b K f
     refine u.keep (λ_ _=>rfl) (λ_ H=>H) (λg U=>⟨rfl,(u.lt U).2.1⟩) (rb φ d i e) λb' r=>rb φ d i λe=>?_
     subst e
     rw[(CW f W).1]at r;cases r
 . intro b E O N g J z y j
   by_cases e:b=d
   . by_cases m:E=d
     . omega
     . rw[zb _ _ _ _ m]at z
       simp[e]at y
       simp[m]at j
       exact absurd y (o E N g z j)
   . rw[zb _ _ _ _ e]at J
     simp[e]at y
     by_cases m:E=d
     . simp[m]at j
       exact absurd j (o b O g J y)
     . rw[zb _ _ _ _ m]at z
       simp[m]at j
       exact h.inj b E O N g J z y j
theorem z8h {b:Nat}:∀ {l:List (Nat×AV)} {s:Nat} {x:AV},get (Zj b l) s=some x ->∃ y,get l s=some y/\((y=x/\x.names b=false)∨x= .when false .any)
 | [],_,_,h=>by simp[Zj,get]at h
 | (k,v)::l,s,x,h=>by
  simp[Zj,get]at h ⊢;split at h
  . refine⟨v,rfl, ?_⟩;cases h;split
    . exact .inr rfl
    . rename_i e;exact .inl ⟨rfl,e⟩
  . exact z8h h
mutual
theorem z8i {b:Nat}:∀ (sh:Shape) (x:AV) (j:Nat),(z6 sh (x.kill b) j=z6 sh x j/\(z6 sh x j).names b=false)∨z6 sh (x.kill b) j= .any
 | .leaf,x,j=>by
  simp[z6];cases x with
  |own c n=>simp[AV.kill];cases h:Nat.beq c b<;>simp[h,fu,AV.ba,AV.names]
  |ptr c n=>simp[AV.kill];cases h:Nat.beq c b<;>simp[h,fu,AV.ba,AV.names]
  |bB c i n=>simp[AV.kill];cases h:Nat.beq c b<;>simp[h,fu,AV.ba,AV.names]
  |bS c i n q=>simp[AV.kill];cases h:Nat.beq c b<;>simp[h,fu,AV.ba,AV.names]
  |cI f l=>simp[AV.kill];cases h:AV.bQ b l<;>simp[h,fu,AV.ba,AV.names]
  |_=>simp[AV.kill,fu,AV.ba,AV.names]
 | .agg k,x,j=>by
  cases x with
  |agg e=>simp[z6];exact zai k e j
  |own c n=>right;simp[AV.kill];cases h:Nat.beq c b<;>simp[z6]
  |ptr c n=>right;simp[AV.kill];cases h:Nat.beq c b<;>simp[z6]
  |bB c i n=>right;simp[AV.kill];cases h:Nat.beq c b<;>simp[z6]
  |bS c i n q=>right;simp[AV.kill];cases h:Nat.beq c b<;>simp[z6]
  |cI f l=>right;simp[AV.kill];cases h:AV.bQ b l<;>simp[z6]
  |_=>right;simp[AV.kill,z6]
 | .arr n s,x,j=>by
  cases x with
  |arr m f=>left;simp[AV.kill,z6,AV.names]
  |own c n=>right;simp[AV.kill];cases h:Nat.beq c b<;>simp[z6]
  |ptr c n=>right;simp[AV.kill];cases h:Nat.beq c b<;>simp[z6]
  |bB c i n=>right;simp[AV.kill];cases h:Nat.beq c b<;>simp[z6]
  |bS c i n q=>right;simp[AV.kill];cases h:Nat.beq c b<;>simp[z6]
  |cI f l=>right;simp only[AV.kill];cases h:AV.bQ b l<;>simp[z6]
  |_=>right;simp[AV.kill,z6]
theorem zai {b:Nat}:∀ (k:List Shape) (e:List AV) (j:Nat),(zh k (AV.lV b e) j=zh k e j/\(zh k e j).names b=false)∨zh k (AV.lV b e) j= .any
 |s::k,x::e,j=>by
  simp only[AV.lV,zh];split
  . exact z8i s x j
  . exact zai k e _
 | [],_,_=>by right;cases ‹List AV› <;>simp[zh]
 |_::_,[],_=>by right;simp[AV.lV,zh]
end
theorem z37 {b:Nat}:∀ {l:List (Nat×aw)} {s:Nat} {c:aw},get (ZH b l) s=some c ->∃ d,get l s=some d/\c=d.kill b
 | [],_,_,h=>by simp[ZH,get]at h
 | (k,v)::l,s,c,h=>by
  simp[ZH,get]at h ⊢;split at h
  . cases h;exact⟨v,rfl,rfl⟩
  . exact z37 h
theorem zdq {b:Nat} {c:aw}:(c.kill b).isRow=c.isRow:=by
 cases c with
 |cell tc sh x=>simp[aw.kill];split<;>rfl
 |row=>rfl
theorem z24.tZ {w w':World} {F y:Nat ->Prop} {φ r:Nat ->Place} {base:Nat ->Prop} {b d:Nat} {c:aw} (h:z24 w F φ base b c) (s:∀ k,F k ->w'.heap[k]? =w.heap[k]?) (u:∀ k,F k ->y k)
 (m:∀ g,(φ b).bY=some g ->w'.heap[g]? =w.heap[g]? /\¬ y g) (o:r b=φ b) (z:∀ e,e≠d ->r e=φ e):z24 w' y r base b (c.kill d):=by
 cases c with
 |cell tc sh x=>
  simp[aw.kill];cases hn:x.names d with
  |false=>exact h.keep s u m o λe i=>z e λe'=>by subst e';simp[aw.names]at i;rw[hn]at i;cases i
  |true=>
   have⟨K,g,M,h1,J,h3,H,h5,E⟩:=h;refine⟨by rw[o];exact K,g,M,by rw[o];exact h1,J,(m g h1).2,(m g h1).1.trans H,h5,λj hj=>?_⟩;rcases z8i (b:=d) sh x j with⟨k1,k2⟩ |k1
   . rw[k1];exact(E j hj).keep s u λe i=>z e λe'=>by grind
   . rw[k1];exact .stat (.any _ (aO.gE sh x j (E j hj)))
 |row ty sh n f=>exact h.keep s u m o λe i=>by simp[aw.names]at i
theorem Rel.zP (h:Rel C W0 F0 st a w F φ) {b:Nat} {c c':aw} {w':World} {row:Option Nat} (M:get st.heap b=some c) (H:w.grownBy w' row)
 (a0:c.isRow=true) (u:∀ g,row=some g ->(φ b).bY=some g) (E:Place) (N:∀ g,E.bY=some g ->(φ b).bY=some g∨w.heap.size<=g) (hB:z24 w' F (λk=>if k=b then E else φ k) W0.B b c'):
 Rel C W0 F0 {env:=Zj b st.env,heap:=put (ZH b st.heap) b c'} a w' F (λk=>if k=b then E else φ k):=by
 have z:∀ k,k<w.heap.size ->(∀ g,(φ b).bY=some g ->k≠g) ->w'.heap[k]? =w.heap[k]? :=λk f a5=>H.block k f λe=>a5 k (u k e.symm) rfl;have f:∀ k,F k ->w'.heap[k]? =w.heap[k]? :=λk f=>z k (h.ro k f) λg Q e=>((h.heap b c M).lt Q).2.1 (e ▸ f);have a7:∀ b' o g,b'≠b ->get st.heap b'=some o ->(φ b').bY=some g ->w'.heap[g]? =w.heap[g]? :=λb' o g a5 a6 j=>
  z g ((h.heap b' o a6).lt j).1 λg2 R e=>a5 (h.inj b' b o c g a6 M j (e ▸ R))
 refine⟨λs x hs=>?_,λb' o m=>?_, ?_,λk f=>yj (h.ro k f) H.size, ?_,h.sub,h.new,h.cW,h.fW,λg x ad=>(h.bZ g x ad).keep f λ_ f=>f,λb' p O=>?_⟩
 . have⟨y,hy,a9⟩:=z8h hs;have⟨v,hv,hr⟩:=h.env s y hy;rcases a9 with⟨rfl,W⟩ |rfl
   . refine⟨v,hv,hr.keep f (λ_ f=>f) λd X=>rb φ b E λe=>?_⟩;grind
   . exact⟨v,hv, .gD false (λh=>by cases h) λ_=> .inr rfl⟩
 . by_cases e:b'=b
   . subst e;rw[zv]at m;grind
   . rw[zb _ _ _ _ e]at m;obtain⟨c0,r,rfl⟩:=z37 m;have a6:=h.heap b' c0 r;exact a6.tZ f (λ_ f=>f) (λg j=>⟨a7 b' c0 g e r j,(a6.lt j).2.1⟩) (rb φ b E e) λd X=>rb φ b E X
 . intro V b2 a4 b1 g K a8 J h4;have new:∀ b' o g,b'≠b ->get st.heap b'=some o ->(φ b').bY=some g ->E.bY≠some g:=by
    intro b' o g a5 a6 j O;rcases N g O with Y |Y
    . exact a5 (h.inj b' b o c g a6 M j Y)
    . have :=((h.heap b' o a6).lt j).1;omega
   by_cases e:V=b
   . by_cases e':b2=b
     . omega
     . rw[zb _ _ _ _ e']at a8;have⟨U,h2,_⟩:=z37 a8;simp[e]at J;simp[e']at h4;exact absurd J (new b2 U g e' h2 h4)
   . rw[zb _ _ _ _ e]at K;have⟨o,Z,_⟩:=z37 K;simp[e]at J;by_cases e':b2=b
     . simp[e']at h4;exact absurd h4 (new V o g e Z J)
     . rw[zb _ _ _ _ e']at a8;have⟨U,h2,_⟩:=z37 a8;simp only[e',yp]at h4;exact h.inj V b2 o U g Z h2 J h4
 . refine h.base.trans (L':=λk=>row=some k) ⟨H.os,H.tape,H.output,H.size,λk f W=>H.block k f λe=>W e.symm⟩ λi hi b0=>?_;exact(((h.heap b c M).lt (u i hi)).2.2).resolve_left ac
 . have⟨a1,a2,a3⟩:=h.gY b' p O;have a5:b'≠b:=λe=>by grind
   refine⟨a1,by simp only[a5,yp];exact a2,λc1 m=>?_⟩;rw[zb _ _ _ _ a5]at m;obtain⟨c0,r,rfl⟩:=z37 m;rw[zdq];exact a3 c0 r
theorem z5h {B:Nat ->Prop} {base b n:Nat} {o:TypeId} {sh:Shape} {f:Nat ->AV} {v:Value} {xs:List Value} (h:w.ownsRow base o sh.size v n xs)
 (s:∀ k,v.ownBlock=some k ->B k) (H:∀ k,v.ownBlock=some k ->¬ F k) (z:∀ i,i<n ->∀ j,j<sh.size ->∃ u,xs[i*sh.size+j]? =some u/\ay w F u (z6 sh (f i) j)):
 ∃ r:Place,r.bY=v.ownBlock/\r.sh=sh/\r.ty=o/\∀ φ:Nat ->Place,φ b=r ->z24 w F φ B b (.row o sh n f)/\aO w F φ v (.own b n):=by
 rcases h.2 with⟨rfl,rfl⟩ | ⟨g,cap,cur,rfl,hbg,hg,hnc,hcm,hcs,htake⟩
 . exact⟨⟨none,0,sh,o⟩,rfl,rfl,rfl,fun φ e=>⟨⟨by rw[e],by rw[e], .inl ⟨by rw[e],rfl⟩⟩, .iT b (by rw[e])⟩⟩
 . refine⟨⟨some g,cap,sh,o⟩,rfl,rfl,rfl,fun φ e=>⟨⟨by rw[e],by rw[e], .inr ⟨g,cur,by rw[e],s g rfl,H g rfl,hg,by rw[e];exact hcs,by rw[e];exact hnc,by rw[e];exact hcm,λi y j E=>?_⟩⟩, ?_⟩⟩
   . have⟨u,x,J⟩:=z i y j E;rw[<- htake]at x;have m:(i+1)*sh.size<=n*sh.size:=xn _ y;rw[yb]at m;rw[y8 ac,yv]at x;simp_all
   . have :=aO.own (w:=w) (F:=F) (φ:=φ) b g n (by rw[e]) (by rw[e];exact hnc);grind
theorem zml {B:Nat ->Prop} {b n m:Nat} {z:TypeId} {sh:Shape} {f:Nat ->AV} {v:Value} (N:z24 w F φ B b (.row z sh n f)) (E:aO w F φ v (.own b m)) (K:m=n):
 ∃ x,w.ownsRow 0 z sh.size v n x/\(∀ k,v.ownBlock=some k ->(φ b).bY=some k)/\∀ i,i<n ->∀ j,j<sh.size ->∃ u,x[i*sh.size+j]? =some u/\ay w F u (z6 sh (f i) j):=by
 subst K;have⟨J,H,o⟩:=N;rcases E.e9 with⟨g,hg,rfl,hc⟩ | ⟨hg,h0,rfl⟩
 . rcases o with⟨h1,_⟩ | ⟨g',cs,hg',hbase,_,hh,hsz,hnc,hmax,hrep⟩
   . grind
   . obtain rfl:g'=g:=by rw[hg]at hg';injection hg' with e;exact e.symm
     have y:m*sh.size<=(φ b).cap*sh.size:=xn _ hnc;refine⟨cs.toList.take (m*sh.size),⟨ci, .inr ⟨g',_,cs,rfl,xp _,hh,hnc,hmax,hsz,rfl⟩⟩,λk r=>by simp[Value.ownBlock]at r;subst r;exact hg,λi s j M=>⟨_, ?_,hrep i s j M⟩⟩;have h:(i+1)*sh.size<=m*sh.size:=xn _ s;rw[yb]at h;rw[y8 ac,yv,xb,y7 ac,yq]
 . subst h0;exact⟨[],World.ownsRow_nil _ _ _ _,λk r=>by simp[Value.ownBlock]at r,λi s=>absurd s ac⟩
theorem zbv {P:Program} (base:Nat) (t ty e:TypeId) (i:TypeInfo) (size:Nat) (h:P.underlying t=some (.slice e)) (j:P.info? e=some i)
 (v:Value) (n:Nat) (xs:List Value) (f:w.ownsRow base e size v n xs) (c:Nat):(Builtin.append_ #[t,t] ty #[v, .slice none 0 c]).run P w= .ok v w:=by
 rcases f.2 with⟨rfl,rfl⟩ | ⟨g,cap,cur,rfl,_,_,hnc,_⟩
 . simp[Builtin.append_,run_underlying h,sizeOf,typeInfo,j,Builtin.lenOf,Builtin.firstCells]
 . simp[Builtin.append_,run_underlying h,sizeOf,typeInfo,j,Builtin.lenOf,Builtin.firstCells,hnc,storeCells]
theorem zdr {s t ty:TypeId} {tl:cT} (hT:cf C) (O:aY C s=some tl) (N:C.P.underlying t=some (.slice s)) {base n m:Nat} {v u:Value} {xs:List Value} {g:Nat ->AV} {sh:Shape} (Q:sh=tl.sh) (f:w.ownsRow base s sh.size v n xs)
 (hs:RO w F u sh m g) (a2:n+m<=9223372036854775807) (J:((n+m:Nat):Int)*tl.bytes<=140737488355328) (h:base<=w.heap.size):
 ∃ k o e,(Builtin.append_ #[t,t] ty #[v,u]).run C.P w= .ok k o/\o.ownsRow base s sh.size k (n+m) (xs++e)/\w.grownBy o v.ownBlock/\(k.ownBlock=v.ownBlock∨k.ownBlock=some w.heap.size)/\
  (∀ i,i<m ->∀ j,j<sh.size ->∃ u,e[i*sh.size+j]? =some u/\ay w F u (z6 sh (g i) j)):=by
 subst Q;have K:=hT _ _ O;have⟨dd,M,z,a1,r,y,E,hz,x,_,a0⟩:=K.info;obtain⟨A,c,e,rfl,hl,hA,V,h1⟩:=zb4 hs K.pos;have H:(n+m)*tl.bytes<=140737488355328:=by
  omega
 rcases wo m with Z |Z
 . subst Z;have U:e=[]:=y3 (by simpa using hl);subst U;cases A with
   |none=>exact⟨v,w,[],zbv base t ty s M _ N r v n xs f c,by simpa using f,World.grownBy.refl w _, .inl rfl,V⟩
   |some ad=>
    have⟨k,o,R,Y,X,_,W⟩:=run_append_own_at (P:=C.P) w base t ty s M z _ _ N r hz y E x K.pos v n xs f ad 0 c [] be (λj u hj=>by simp at hj) be (by unfold maxLen;omega) H h;exact⟨k,o,[],R,Y,X,W,V⟩
 . obtain⟨ad,rfl,hc⟩:=hA Z;have⟨k,o,R,Y,X,_,W⟩:=run_append_own_at (P:=C.P) w base t ty s M z _ _ N r hz y E x K.pos v n xs f ad m c e hl hc h1 (by unfold maxLen;omega) H h;exact⟨k,o,e,R,Y,X,W,V⟩
theorem zaj {n m:Nat} {sh:Shape} {f g:Nat ->AV} {xs k:List Value} (hl:xs.length=n*sh.size) (x:∀ i,i<n ->∀ j,j<sh.size ->∃ u,xs[i*sh.size+j]? =some u/\ay w F u (z6 sh (f i) j))
 (r:∀ i,i<m ->∀ j,j<sh.size ->∃ u,k[i*sh.size+j]? =some u/\ay w F u (z6 sh (g i) j)):
 ∀ i,i<n+m ->∀ j,j<sh.size ->∃ u,(xs++k)[i*sh.size+j]? =some u/\ay w F u (z6 sh (if i<n then f i else g (i - n)) j):=by
 intro i y j s;by_cases h:i<n
 . have o:(i+1)*sh.size<=n*sh.size:=xn _ h;grind
 . have e:i*sh.size=n*sh.size+(i - n)*sh.size:=by rw[<- yb];congr 1;omega
   rw[y9 ac,x8 h,hl,show i*sh.size+j - n*sh.size=(i - n)*sh.size+j from ac];exact r (i - n) ac j s
theorem zng {c:Call} (h:Rel C W0 F0 st a w F φ) (hT:cf C) (ho:o.op= .call c) (hc:c.callee= .builtin .append) (M:zl C st e o.dst bb CC (.call c)=some r)
 (hx:∀ x∈c.args.toList,∀ u,e x=some u ->aO w F φ (a.eval x) u) (Z:∀ p∈r.jR,p) (J:zx st o.dst r.iG=some st') (hn:Next C W0 F0 st' a o r.val next):o.wp C.P a w next Q:=by
 simp only[zl,hc]at M
 split at M
 case h_2=>cases M
 rename_i x y t t' d a1 d9 hd
 split at M
 case h_2=>cases M
 rename_i te v u h1 ef h2 h3
 have :=xc ef
 subst this
 split at M
 case h_2=>cases M
 rename_i X d2
 split at M
 case h_2=>cases M
 rename_i tl d0
 split at M
 case h_2=>cases M
 rename_i W m g ps R
 have ea:c.args=#[x,y]:=by rw[<- gi (xs:=c.args),a1]
 have et:c.argTypes=#[t,t]:=by rw[<- gi (xs:=c.argTypes),d9]
 have T:=hT _ _ h1
 have Tl:=hT _ _ d0
 have hu:=HK T d2
 have hV:=hx x (by rw[a1];simp) v h2
 have hU:=hx y (by rw[a1];simp) u h3
 have bh:∀ {V:Value} {w':World},(Builtin.append_ #[t,t] o.type #[a.eval x,a.eval y]).run C.P w= .ok V w' ->next (a.put o.dst V) w' ->o.wp C.P a w next Q:=by
  intro V w' E f0
  unfold Oper.wp
  have :(execOp a.eval o).run C.P w= .ok (.value V) w':=by
   refine YV ho hc ?_
   rw[ea,et]
   simp only[builtin,Sem.run_bind]
   have :(#[x,y].map a.eval)=#[a.eval x,a.eval y]:=be
   rw[this,E]
   rfl
  rw[this]
  exact f0
 have b5:∀ {w':World},w.grownBy w' none ->Below w.heap.size w w':=λhg=>(Below.refl _ _).grown hg (xm _) be
 have hs:(∀ p∈ps,p) ->RO w F (a.eval y) W m g:=by
  intro a7
  cases u<;>simp only[xr,ya,reduceCtorEq]at R
  . obtain⟨rfl,rfl,rfl,rfl⟩:=R;exact zk4 hU
  . obtain⟨rfl,rfl,rfl,rfl⟩:=R;exact zbu (.inl hU)
  . obtain⟨rfl,rfl,rfl,rfl⟩:=R;exact zbu (.inr hU)
  . split at R
    . rename_i hb
      simp only[xr,ya]at R
      obtain⟨rfl,rfl,rfl,rfl⟩:=R
      exact zzn h hU hb (a7 _ be)
    . cases R
 have VX:∃ vx,vx=a.eval x:=⟨_,rfl⟩
 have⟨vx,a5⟩:=VX
 rw[<- a5]at hV
 have a3:∀ {V:Value} {w':World} {n:Nat} {f:Nat ->AV} {xs:List Value},(Builtin.append_ #[t,t] o.type #[a.eval x,a.eval y]).run C.P w= .ok V w' ->w'.ownsRow 0 X W.size V n xs ->w.grownBy w' none ->
  (V.ownBlock=none∨V.ownBlock=some w.heap.size) ->(∀ i,i<n ->∀ j,j<W.size ->∃ u,xs[i*W.size+j]? =some u/\ay w F u (z6 W (f i) j)) ->zx st o.dst (.new (.row X W n f))=some st' ->r.val= .own d n ->o.wp C.P a w next Q:=by
  intro V w' n f xs E h4 h5 H h7 J a2
  refine bh E ?_
  have hb:=b5 h5
  have hR:=h.grown hb (λ_ s=>s) (λk s=> .inl s) λk s=>yj (h.ro k s) hb.size
  have U:∀ k,F k ->w'.heap[k]? =w.heap[k]? :=λk s=>hb.block k (h.ro k s)
  have⟨pl,p1,p2,p3,p4⟩:=z5h (F:=F) (B:=W0.B) (base:=0) (b:=d) (f:=f) h4 (λk s=>by
   rcases H with H |H
   . rw[H]at s;cases s
   . rw[H]at s;cases s;exact h.qP (xm _)) (λk s hF=>by
   rcases H with H |H
   . rw[H]at s;cases s
   . rw[H]at s;cases s;have :=h.ro _ hF;omega) (λi hi j hj=>by
     have⟨uu,a6,a8⟩:=h7 i hi j hj
     exact⟨uu,a6,a8.keep U λ_ s=>s⟩)
  rw[hd]at J
  simp only[zx]at J
  split at J
  case h_2=>cases J
  rename_i d3
  cases J
  simp only[xa,xj]at d3
  have⟨B1,B2⟩:=p4 (λk=>if k=d then pl else φ k) be
  refine hn V w' F _ (hR.Jl d3.1 d3.2 pl (λb c' gg fe f6 hp=>?_) B1) λ_=>by rw[a2];exact B2
  rw[p1]at hp
  rcases H with H |H
  . rw[H]at hp;cases hp
  . rw[H]at hp;cases hp;have :=((h.heap b c' fe).lt f6).1;omega
 have a4:∀ {V:Value} {w':World} {n:Nat} {f:Nat ->AV} {xs:List Value},(Builtin.append_ #[t,t] o.type #[a.eval x,a.eval y]).run C.P w= .ok V w' ->w'.ownsRow 0 X W.size V n xs ->w.grownBy w' none ->
  (V.ownBlock=none∨V.ownBlock=some w.heap.size) ->(∀ i,i<n ->∀ j,j<W.size ->∃ u,xs[i*W.size+j]? =some u/\ay w F u (z6 W (f i) j)) ->zx st o.dst .none=some st' ->r.val= .seq W n f ->o.wp C.P a w next Q:=by
  intro V w' n f xs E h4 h5 H h7 J a2
  refine bh E ?_
  simp only[zx,xr]at J
  subst J
  have hb:=b5 h5
  have U:∀ k,F k ->w'.heap[k]? =w.heap[k]? :=λk s=>hb.block k (h.ro k s)
  obtain⟨hlen,⟨rfl,rfl⟩ | ⟨g0,cap,e8,rfl,_,bd,b4,g4,f9,f8⟩⟩:=h4
  . have hR:=h.grown hb (λ_ s=>s) (λk s=> .inl s) λk s=>yj (h.ro k s) hb.size
    refine hn _ _ F φ hR λ_=>?_
    rw[a2];exact .stat (.db _ _ _ _)
  . have hg:g0=w.heap.size:=by
     rcases H with H |H
     . cases H
     . cases H;rfl
    subst hg
    have ej:w.heap.size<w'.heap.size:=(xi.1 bd).1
    refine hn _ _ (λk=>F k∨k=w.heap.size) φ (h.grown hb (λk s=> .inl s) (λk s=>s.imp id λe=>ac) λk s=>?_) λ_=>?_
    . rcases s with s |rfl
      . exact yj (h.ro k s) hb.size
      . exact ej
    . rw[a2]
      have lt:∀ i,i<n ->∀ j,j<W.size ->i*W.size+j<n*W.size:=λi hi j hj=>by
       have e2:=xn W.size (show i+1<=n from hi)
       rw[yb]at e2;omega
      refine .stat (.seq w.heap.size 0 n cap _ _ (λi j=>e8.getD (i*W.size+j) undef) (.inr rfl) b4 (λi hi j hj=>?_) λi hi j hj=>?_)
      . have f3:=xn W.size b4
        have :=lt i hi j hj
        rw[xy];exact oW bd (by rw[f9];omega)
      . have⟨uu,a6,a8⟩:=h7 i hi j hj
        have :e8.getD (i*W.size+j) undef=uu:=by
         rw[<- f8,y8 (lt i hi j hj),yv]at a6
         rw[xb,a6];rfl
        rw[this];exact a8.keep U λ_ s=> .inl s
 split at M
 . -- nil
   rename_i K
   simp only[xa]at K
   have es:=Shape.aQ _ _ K.1
   have a7:∀ p∈ps,p:=λp hp=>Z p (by(repeat' split at M)<;>(cases M;simp[hp]))
   have d5:vx= .slice none 0 0:=by cases hV with |stat hV=>cases hV;rfl
   have go:=λ(hh:(m:Int)*tl.bytes<=140737488355328/\m<=9223372036854775807)=>zdr (ty:=o.type) hT d0 hu es (World.ownsRow_nil w 0 X W.size) (hs a7) ac (by rw[xy];exact hh.1) (xp _)
   split at M
   . cases M
     have⟨V,w',N,E,h4,h5,H,h7⟩:=go (Z _ be)
     rw[<- d5,a5]at E
     rw[xy,List.nil_append]at h4
     exact a3 E h4 h5 H h7 J rfl
   . split at M
     . cases M
       have⟨V,w',N,E,h4,h5,H,h7⟩:=go (Z _ be)
       rw[<- d5,a5]at E
       rw[xy,List.nil_append]at h4
       exact a4 E h4 h5 H h7 J rfl
     . cases M
       obtain rfl:m=0:=Z _ be
       have⟨A,c2,d6,_⟩:=hs a7
       have⟨dd,ie,z,ee,b6,e0,d4,hz,d8,_,eb⟩:=Tl.info
       have E:(Builtin.append_ #[t,t] o.type #[a.eval x,a.eval y]).run C.P w= .ok (.slice none 0 0) w:=by
        rw[<- a5,d5,d6]
        cases A<;>simp[Builtin.append_,run_underlying hu,sizeOf,typeInfo,b6,Builtin.lenOf,Builtin.firstCells,loadCells,loadCellsFrom]
       simp only[zx,xr]at J
       subst J
       exact bh E (hn _ w F φ h λ_=> .stat .aA)
 . -- full
   rename_i sh n f K
   simp only[xa]at K
   have es:=Shape.aQ _ _ K.1
   split at M
   case h_2=>cases M
   rename_i d1
   have d7:=Shape.aQ _ _ d1
   subst d7
   obtain⟨o0,o1,o2⟩:0<m/\((n+m:Nat):Int)*tl.bytes<=140737488355328/\n+m<=9223372036854775807:=Z _ (by split at M<;>(cases M;simp))
   have a7:∀ p∈ps,p:=λp hp=>Z p (by split at M<;>(cases M;simp[hp]))
   have⟨dd,ie,z,ee,b6,e0,d4,hz,d8,_,eb⟩:=Tl.info
   have c0:=Tl.pos
   have⟨A2,c2,N,d6,b0,g1,f1,g5⟩:=zb4 (hs a7) (by rw[es];exact c0)
   obtain⟨ad,rfl,b4⟩:=g1 o0
   have⟨A1,c1,O,e5,a0,e6,f2,g6⟩:=zb4 (zbu (.inr hV)) (by rw[es];exact c0)
   have e3:c1=n:=by
    rw[e5]at hV
    cases hV with
    |stat hV=>cases hV<;>rfl
   subst e3
   have e4:(c1+m)*tl.bytes<=140737488355328:=by
    have :(((c1+m)*tl.bytes:Nat):Int)<=140737488355328:=by rw[Int.natCast_mul];exact o1
    omega
   have f5:=grownCap_ge w (c1+m) c1 X
   have f7:grownCap w (c1+m) c1 X<=maxLen:=grownCap_le_maxLen w (c1+m) c1 X (by unfold maxLen;omega)
   have a9:ie.size=sh.size:=by rw[e0,es]
   have done:(Builtin.append_ #[t,t] o.type #[a.eval x,a.eval y]).run C.P w= .ok (.slice (some ⟨w.heap.size,0,none⟩) (c1+m) (grownCap w (c1+m) c1 X)) (w.drew.alloc (.cells (O.toArray++N.toArray++Builtin.zeroCells z.cells (grownCap w (c1+m) c1 X - (c1+m))) X)):=by
    have g2:a.eval x= .slice A1 c1 c1:=a5.symm.trans e5
    rw[d6,g2]
    cases A1 with
    |some b1=>
     refine run_append_grow (P:=C.P) w t o.type X ie z hu b6 hz b1 c1 c1 O (by rw[a0,a9]) (λj u hj=>?_) ad m c2 N (by rw[b0,a9]) b4 ac ac (growslice_fits ac (by rw[d4];exact e4))
     rcases wo c1 with h0 |h0
     . subst h0
       have :O=[]:=y3 (by simpa using a0)
       subst this;simp at hj
     . have⟨g3,e1,bd⟩:=e6 h0
       cases e1
       exact bd j u hj
    |none=>
     have h0:c1=0:=by
      rcases wo c1 with h0 |h0
      . exact h0
      . have⟨g3,e1,_⟩:=e6 h0;cases e1
     subst h0
     have h0:O=[]:=y3 (by simpa using a0)
     subst h0
     have fd:m*ie.bytes<=281474976710656:=by rw[d4];have h9:=e4;rw[xy]at h9;exact y6 h9 ap
     have f4:(m:Int)<=9223372036854775807:=by rw[xy]at o2;exact Int.ofNat_le.2 o2
     have :=run_append_nil (P:=C.P) w t o.type X ie z hu b6 hz ad m c2 N (by rw[b0,a9]) b4 o0 f4 fd
     simpa using this
   have gr:w.grownBy (w.drew.alloc (.cells (O.toArray++N.toArray++Builtin.zeroCells z.cells (grownCap w (c1+m) c1 X - (c1+m))) X)) none:=⟨rfl,rfl,rfl,be,λk s _=>Below.heap_alloc w.drew _ k s⟩
   have e7:=zaj a0 f2 f1
   have bk:(w.drew.alloc (.cells (O.toArray++N.toArray++Builtin.zeroCells z.cells (grownCap w (c1+m) c1 X - (c1+m))) X)).ownsRow 0 X sh.size (.slice (some ⟨w.heap.size,0,none⟩) (c1+m) (grownCap w (c1+m) c1 X)) (c1+m) (O++N):=by
    refine⟨by rw[xl,a0,b0,yb], .inr ⟨w.heap.size,_,_,rfl,xp _,heap_alloc_new w.drew _,f5,f7, ?_, ?_⟩⟩
    . simp only[Array.size_append,List.size_toArray,size_zeroCells,d8,a0,b0,<- es,<- yb]
      congr 1
      omega
    . simp only[jh,ww]
      have :(c1+m)*sh.size=(O++N).length:=by rw[xl,a0,b0,yb]
      rw[<- ww,this]
      exact List.take_left
   split at M
   . cases M;exact a3 done bk gr (.inr rfl) e7 J rfl
   . cases M;exact a4 done bk gr (.inr rfl) e7 J rfl
 . -- the call's own
   rename_i b n K
   simp only[xa]at K
   have es:=Shape.aQ _ _ K.1
   split at M
   case h_2=>cases M
   rename_i ty sh n' f hb
   split at M
   case h_2=>cases M
   rename_i ch
   simp only[xa]at ch
   have⟨⟨k1,k2⟩,k4⟩:=ch
   have e1:=xc k1
   have d7:=Shape.aQ _ _ k2
   subst e1 d7
   cases M
   obtain⟨o0,o1,o2⟩:n=n'/\((n+m:Nat):Int)*tl.bytes<=140737488355328/\n+m<=9223372036854775807:=Z _ be
   subst o0
   have⟨xs,c3,Y,ed⟩:=zml (h.heap b _ hb) hV rfl
   have⟨V,w',N,E,h4,h5,H,h7⟩:=zdr (ty:=o.type) hT d0 hu es c3 (hs λp hp=>Z p (by simp[hp])) o2 o1 (xp _)
   rw[a5]at E
   refine bh E ?_
   simp only[zx,xr]at J
   subst J
   have fh:∀ k,V.ownBlock=some k ->¬ F k:=by
    intro k s hF
    rcases H with H |H
    . rw[H]at s;exact((h.heap b _ hb).lt (Y k s)).2.1 hF
    . rw[H]at s;cases s;have :=h.ro _ hF;omega
   have U:∀ k,F k ->w'.heap[k]? =w.heap[k]? :=λk s=>h5.block k (h.ro k s) λe=>((h.heap b _ hb).lt (Y k e.symm)).2.1 s
   have⟨pl,p1,p2,p3,p4⟩:=z5h (F:=F) (B:=W0.B) (base:=0) (b:=b) (f:=λi=>if i<n then f i else g (i - n)) h4 (λk s=>by
    rcases H with H |H
    . rw[H]at s;exact((h.heap b _ hb).lt (Y k s)).2.2
    . rw[H]at s;cases s;exact h.qP (xm _)) fh (λi hi j hj=>by
    have⟨uu,a6,a8⟩:=zaj c3.1 ed h7 i hi j hj
    exact⟨uu,a6,a8.keep U λ_ s=>s⟩)
   have⟨B1,B2⟩:=p4 (λk=>if k=b then pl else φ k) be
   refine hn V w' F _ (h.zP hb h5 rfl (λgg hg=>Y gg hg) pl (λgg hg=>?_) B1) λ_=>B2
   rw[p1]at hg
   rcases H with H |H
   . rw[H]at hg;exact .inl (Y gg hg)
   . rw[H]at hg;cases hg;exact .inr (xm _)
 . cases M
end
section
variable {C:bt} {W0:Entry} {F0:Nat ->Prop} {st st':St} {a:Act} {w:World} {F:Nat ->Prop} {φ:Nat ->Place} {e:Operand ->Option AV} {dst:Option Nat} {bb:FuncId ->List AV ->Option AV} {CC:FuncId ->List AV ->AV ->Prop} {r:kq} {o:Oper}
 {next:Act ->World ->Prop} {Q:Exit ->Act ->World ->Prop}
theorem zk5 {c:Call} {x y:Operand} {t t':TypeId} {te:cT} {b o0 n:Nat} {u:AV} {el:TypeId} {tl:cT} {ty:TypeId} {sh:Shape} {n':Nat} {f f':Nat ->AV} {su:Shape} {m:Nat} {g:Nat ->AV}
 (h:Rel C W0 F0 st a w F φ) (hT:cf C) (ho:o.op= .call c) (hc:c.callee= .builtin .copy) (hargs:c.args.toList=[x,y]) (htys:c.argTypes.toList=[t,t']) (h1:aY C t=some te) (hkind:te.kind= .slice el) (htl:aY C el=some tl)
 (hb:get st.heap b=some (.row ty sh n' f)) (hsrc:(match u with | .seq su m g | .bN su m g=>some (su,m,g) | .aA=>some (tl.sh,0,λ_=>AV.any) |_=>none:Option (Shape×Nat×(Nat ->AV)))=some (su,m,g))
 (es:su=tl.sh) (es2:sh=tl.sh) (hU:aO w F φ (a.eval y) u) (o2:(n:Int)<=9223372036854775807)
 (hV:(∃ gb p cap0,(φ b).bY=some gb/\o0+n<=(φ b).cap/\(p=o0*(φ b).sh.size∨n=0/\p=0)/\a.eval x= .slice (some ⟨gb,p,none⟩) n cap0)∨((φ b).bY=none/\n=0/\a.eval x= .slice none 0 0))
 (hf:∀ i,f' i=if o0<=i/\i<o0+min m n then g (i - o0)else f i)
 (hn:Next C W0 F0 {st with heap:=put st.heap b (.row ty sh n' f')} a o (.int .i64 ((min m n:Nat):Int)) next):o.wp C.P a w next Q:=by
 have ea:c.args=#[x,y]:=by rw[<- gi (xs:=c.args),hargs]
 have et:c.argTypes=#[t,t']:=by rw[<- gi (xs:=c.argTypes),htys]
 have T:=hT _ _ h1
 have Tl:=hT _ _ htl
 have hu:=HK T hkind
 have hs:RO w F (a.eval y) su m g:=by
  cases u<;>simp only[xr,ya,reduceCtorEq]at hsrc
  . obtain⟨rfl,rfl,rfl⟩:=hsrc;exact zk4 hU
  . obtain⟨rfl,rfl,rfl⟩:=hsrc;exact zbu (.inl hU)
  . obtain⟨rfl,rfl,rfl⟩:=hsrc;exact zbu (.inr hU)
 have hpos:=Tl.pos
 have⟨A,cp,news,hUv,hl,hA,hnw,hone⟩:=zb4 hs (by rw[es];exact hpos)
 have hin:aU .i64 ((min m n:Nat):Int):=zes (by omega)
 have fin:∀ {w':World},(Builtin.copy_ #[t,t'] o.type #[a.eval x,a.eval y]).run C.P w= .ok (.int .i64 ((min m n:Nat):Int)) w' ->Rel C W0 F0 {st with heap:=put st.heap b (.row ty sh n' f')} a w' F φ ->o.wp C.P a w next Q:=by
  intro w' hrun hR
  unfold Oper.wp
  have :(execOp a.eval o).run C.P w= .ok (.value (.int .i64 ((min m n:Nat):Int))) w':=by
   refine YV ho hc ?_
   rw[ea,et]
   simp only[builtin,Sem.run_bind]
   have :(#[x,y].map a.eval)=#[a.eval x,a.eval y]:=be
   rw[this,hrun]
   rfl
  rw[this]
  exact hn _ w' F φ hR λ_=> .stat (.int _ _ hin)
 have hsz2:(sizeOf el).run C.P w= .ok tl.sh.size w:=Tl.size
 have⟨hsh,hty,hrow⟩:=h.heap b _ hb
 -- the cells that are read
 have hfc:(Builtin.firstCells tl.sh.size (min m n) (a.eval y)).run C.P w= .ok ((news.take (min m n*tl.sh.size)).toArray) w:=by
  rw[hUv]
  cases A with
  |none=>
   have h0:m=0:=by
    rcases wo m with h0 |h0
    . exact h0
    . have⟨ad,e,_⟩:=hA h0;cases e
   subst h0
   have :news=[]:=y3 (by simpa using hl)
   subst this
   simp[Builtin.firstCells]
  |some ad=>
   have hlen:(news.take (min m n*tl.sh.size)).length=min m n*tl.sh.size:=by
    have :min m n*tl.sh.size<=m*tl.sh.size:=xn _ (Nat.min_le_left _ _)
    rw[xu,hl,es];omega
   simp only[Builtin.firstCells]
   have hrl:=run_loadCells_list (P:=C.P) w ad (news.take (min m n*tl.sh.size)) λj v hj=>by
    rcases wo m with h0 |h0
    . subst h0
      have :news=[]:=y3 (by simpa using hl)
      subst this;simp at hj
    . have⟨ad',e,hcs⟩:=hA h0
      cases e
      rw[List.getElem?_take]at hj
      split at hj
      . exact hcs j v hj
      . cases hj
   rw[hlen]at hrl
   exact hrl
 have key:∀ {base:Option Addr} {cap:Nat},a.eval x= .slice base n cap ->(Builtin.copy_ #[t,t'] o.type #[a.eval x,a.eval y]).run C.P w=
  ((match base with |some ad=>storeCells ad (news.take (min m n*tl.sh.size)) |none=>pure ()).run C.P w).andThen λ_ w'=> .ok (.int .i64 ((min m n:Nat):Int)) w':=by
  intro base cap hv
  have hU2:=hUv
  rw[hv]
  simp only[Builtin.copy_,List.getElem?_toArray,List.getElem?_cons_zero,List.getElem?_cons_succ,Sem.run_bind,run_underlying hu,Result.andThen_ok]
  have hlo:(Builtin.lenOf (a.eval y)).run C.P w= .ok m w:=by rw[hUv];rfl
  rw[hlo]
  simp only[Result.andThen_ok]
  have :Nat.min m n=min m n:=rfl
  rw[this,hsz2]
  simp only[Result.andThen_ok]
  rw[hfc]
  simp only[Result.andThen_ok]
  cases base<;>simp[goInt]
 rcases hV with⟨gb,p0,cap0,hg,hnc,hp0,hv⟩ | ⟨hg,h0,hv⟩
 . rcases hrow with⟨h4,_⟩ | ⟨g',cs,hg',hbase,hnF,hh,hsz,hncap,hmax,hrep⟩
   . rw[hg]at h4;cases h4
   obtain rfl:g'=gb:=by rw[hg]at hg';injection hg' with e;exact e.symm
   have hlen:(news.take (min m n*tl.sh.size)).length=min m n*tl.sh.size:=by
    have :min m n*tl.sh.size<=m*tl.sh.size:=xn _ (Nat.min_le_left _ _)
    rw[xu,hl,es];omega
   have hle:p0+min m n*tl.sh.size<=cs.size/\(p0=o0*tl.sh.size∨min m n*tl.sh.size=0):=by
    rw[hsz,es2]
    rcases hp0 with e | ⟨e,e'⟩
    . rw[hsh,es2]at e
      have h9:(o0+min m n)*tl.sh.size<=(φ b).cap*tl.sh.size:=xn _ (y6 (Nat.add_le_add_left (Nat.min_le_right m n) o0) hnc)
      rw[yb]at h9
      exact⟨by omega, .inl e⟩
    . subst e e';simp
   have hsc:=run_storeCells_at (P:=C.P) g' p0 ty (news.take (min m n*tl.sh.size)) 0 cs w hh (by rw[hlen];omega) (λv hv=>hone v (List.mem_of_mem_take hv))
   rw[wm,hlen]at hsc
   refine fin (w':=w.setRow g' (cs.toList.take p0++news.take (min m n*tl.sh.size)++cs.toList.drop (p0+min m n*tl.sh.size)).toArray) ?_ ?_
   . rw[key hv,hsc]
     rfl
   . have hna:((news.take (min m n*tl.sh.size)).toArray).size=min m n*tl.sh.size:=by simpa using hlen
     have hsp:(cs.toList.take p0++news.take (min m n*tl.sh.size)++cs.toList.drop (p0+min m n*tl.sh.size))=(cs.toList.take p0++(news.take (min m n*tl.sh.size)).toArray.toList++cs.toList.drop (p0+min m n*tl.sh.size)):=be
     rw[hsp]
     refine h.oL hb hg rfl rfl rfl be (λk hk=>tG hk) rfl ⟨hsh,hty, .inr ⟨g',_,hg,hbase,hnF,setRow_heap w g' cs _ _ _ hh,by rw[z68 hna (by omega)];exact hsz,hncap,hmax,λi hi j hj=>?_⟩⟩
     rw[z7m hna (by omega)]
     refine ay.keep (w:=w) (F:=F) ?_ (λk hk=>tG λe=>hnF (e ▸ hk)) (λ_ hk=>hk)
     by_cases hik:o0<=i/\i<o0+min m n
     . have hmul:(i - o0+1)*tl.sh.size<=min m n*tl.sh.size:=xn _ (by omega)
       have hio:i*tl.sh.size=o0*tl.sh.size+(i - o0)*tl.sh.size:=by rw[<- yb];congr 1;omega
       rw[yb]at hmul
       rw[es2]at hj ⊢
       have hp1:p0=o0*tl.sh.size:=hle.2.resolve_right (by omega)
       rw[x9 (by omega),hf i,x9 hik,show i*tl.sh.size+j - p0=(i - o0)*tl.sh.size+j from by omega]
       have⟨uu,hu1,hu2⟩:=hnw (i - o0) (by omega) j (by rw[es];exact hj)
       rw[es]at hu1 hu2
       rw[xb,List.getElem?_toArray,y8 (by omega),hu1]
       exact hu2
     . have hout:¬ (p0<=i*sh.size+j/\i*sh.size+j<p0+min m n*tl.sh.size):=by
        rw[es2]at hj ⊢
        rcases hle.2 with e |e
        . rcases jt i o0 with h8 |h8
          . have :=xn tl.sh.size (show i+1<=o0 from h8)
            rw[yb]at this;omega
          . have :=xn tl.sh.size (show o0+min m n<=i by omega)
            rw[yb]at this;omega
        . omega
       rw[x8 hout,hf i,x8 hik]
       exact hrep i hi j hj
 . subst h0
   refine fin (w':=w) ?_ ?_
   . rw[key hv];rfl
   . refine⟨h.env,λb' c1 hc1=>?_, ?_,h.ro,h.base,h.sub,h.new,h.cW,h.fW,h.bZ,λb' p hp=>?_⟩
     . by_cases e:b'=b
       . subst e
         rw[zv]at hc1
         cases hc1
         refine⟨hsh,hty, ?_⟩
         rcases hrow with h4 | ⟨g',cs,hg',_⟩
         . exact .inl h4
         . rw[hg]at hg';cases hg'
       . rw[zb _ _ _ _ e]at hc1
         exact h.heap b' c1 hc1
     . intro b1 b2 c1 c2 g2 k1 k2 k3 k4
       have i1:∃ c1',get st.heap b1=some c1':=by
        by_cases e:b1=b
        . exact⟨_,e ▸ hb⟩
        . rw[zb _ _ _ _ e]at k1;exact⟨c1,k1⟩
       have i2:∃ c2',get st.heap b2=some c2':=by
        by_cases e:b2=b
        . exact⟨_,e ▸ hb⟩
        . rw[zb _ _ _ _ e]at k2;exact⟨c2,k2⟩
       have⟨c1',i1⟩:=i1
       have⟨c2',i2⟩:=i2
       exact h.inj b1 b2 c1' c2' g2 i1 i2 k3 k4
     . have⟨a1,a2,a3⟩:=h.gY b' p hp
       refine⟨a1,a2,λc1 hc1=>?_⟩
       by_cases e:b'=b
       . subst e;exact absurd (a3 _ hb) (by simp[aw.isRow])
       . rw[zb _ _ _ _ e]at hc1;exact a3 c1 hc1
theorem zzo {c:Call} (h:Rel C W0 F0 st a w F φ) (hT:cf C) (V:o.op= .call c) (R:c.callee= .builtin .copy) (k:zl C st e o.dst bb CC (.call c)=some r)
 (U:∀ x∈c.args.toList,∀ u,e x=some u ->aO w F φ (a.eval x) u) (O:∀ p∈r.jR,p) (K:zx st o.dst r.iG=some st') (W:Next C W0 F0 st' a o r.val next):o.wp C.P a w next Q:=by
 simp only[zl,R]at k;split at k;case h_2=>cases k
 rename_i x y t t' i z;split at k;case h_3=>cases k
 all_goals
  rename_i h1 a1 h2 h3;split at k;case h_2=>cases k
  rename_i el a2 s N;split at k;case h_2=>cases k
  rename_i tl ty sh n' f J a0 X;split at k;case h_2=>cases k
  rename_i su m g E;split at k;case h_2=>cases k
  rename_i j;simp only[xa]at j;have es:=Shape.aQ _ _ j.1;have M:=Shape.aQ _ _ j.2;cases k;have Y:=U x (by rw[i];simp) _ h2;have Z:=U y (by rw[i];simp) _ h3;simp only[zx,xr]at K;subst K;have H:=O _ (xz.2 rfl)
 . refine zk5 h hT V R i z h1 s J X E es M Z H.2 (o0:=0) ?_ (λi=>?_) W
   . rcases Y.e9 with⟨gb,hg,hv,hnc⟩ | ⟨hg,h0,hv⟩
     . grind
     . exact .inr ⟨hg,h0,hv⟩
   . grind
 . refine zk5 h hT V R i z h1 s J X E es M Z H.2 ?_ (λi=>rfl) W;rcases Y.jP with⟨gb,p,hg,hnc,_,hp,hv⟩ | ⟨hg,_,h0,hv⟩
   . exact .inl ⟨gb,p,_,hg,hnc,hp,hv⟩
   . exact .inr ⟨hg,h0,hv⟩
end
end Go.AV
namespace Go.AV
open Go.RowKit
theorem zzp (n:Nat ->Nat) (x:AV):(x.sub n).ba=x.ba:=by cases x<;>rfl
theorem zmm (n:Nat ->Nat) (x:AV):fu (x.sub n)=(fu x).sub n:=by
 unfold fu;rw[zzp];split<;>rfl
theorem znh {x:AV} (h:x.ba=true):x.dK=true:=by cases x<;>first |rfl | (simp[AV.ba]at h)
mutual
theorem z3v:∀ (sh:Shape) (x:AV) (j:Nat),(z6 sh x j).dK=true
 | .leaf,x,j=>by
  simp[z6,fu];split
  . rename_i h;exact znh h
  . rfl
 | .agg f,x,j=>by
  cases x with
  |agg e=>simp[z6];exact z8x f e j
  |_=>rfl
 | .arr n s,x,j=>by cases x<;>rfl
theorem z8x:∀ (f:List Shape) (e:List AV) (j:Nat),(zh f e j).dK=true
 |s::f,x::e,j=>by
  simp[zh];split
  . exact z3v s x j
  . exact z8x f e _
 | [],_,_=>rfl
 |_::_,[],_=>rfl
end
mutual
theorem z50 (n:Nat ->Nat):∀ (sh:Shape) (x:AV) (j:Nat),z6 sh (x.sub n) j=(z6 sh x j).sub n
 | .leaf,x,j=>by simp only[z6];exact zmm n x
 | .agg f,x,j=>by
  cases x with
  |agg e=>simp[AV.sub];exact zbw n f e j
  |_=>rfl
 | .arr m s,x,j=>by cases x<;>rfl
theorem zbw (n:Nat ->Nat):∀ (f:List Shape) (e:List AV) (j:Nat),zh f (AV.me n e) j=(zh f e j).sub n
 |s::f,x::e,j=>by
  simp[zh,AV.me];split
  . exact z50 n s x j
  . exact zbw n f e _
 | [],e,j=>by cases e<;>rfl
 |_::_,[],_=>rfl
end
mutual
theorem z3w (m:Nat ->Bool):∀ (sh:Shape) (x:AV) (j:Nat),x.ff m=true ->(z6 sh x j).ff m=true
 | .leaf,x,j,h=>by
  simp[z6,fu];split
  . exact h
  . rfl
 | .agg f,x,j,h=>by
  cases x with
  |agg e=>simp[z6];exact z8y m f e j (by simpa [AV.ff]using h)
  |_=>rfl
 | .arr n s,x,j,h=>by cases x<;>rfl
theorem z8y (m:Nat ->Bool):∀ (f:List Shape) (e:List AV) (j:Nat),AV.hY m e=true ->(zh f e j).ff m=true
 |s::f,x::e,j,h=>by
  simp[zh];simp[AV.hY]at h;split
  . exact z3w m s x j h.1
  . exact z8y m f e _ h.2
 | [],_,_,_=>rfl
 |_::_,[],_,_=>rfl
end
section
variable {w:World} {F:Nat ->Prop} {φ φ2:Nat ->Place} {n:Nat ->Nat} {m:Nat ->Bool}
theorem zb5 (s:∀ b,m b=true ->φ2 (n b)=φ b) {v:Value} {y:AV} (hl:y.dK=true) (r:y.ff m=true) (h:aO w F φ v y):aO w F φ2 v (y.sub n):=by
 cases h with
 |stat h=>cases h<;>first | (simp[AV.dK]at hl;done) |exact .stat (by constructor<;>assumption) |skip
 |st h=>exact .st h
 |own b g k e u=>
  rw[<- s b r]at e u ⊢;exact .own (n b) g k e u
 |iT b e=>
  rw[<- s b r]at e;exact .iT (n b) e
 |ptr b g p e j=>
  rw[<- s b r]at e j ⊢;exact .ptr (n b) g p e j
 |bB b g i p e j=>
  rw[<- s b r]at e j ⊢;exact .bB (n b) g i p e j
 |bS b g o p k c e u z j=>
  rw[<- s b r]at e u z j ⊢;exact .bS (n b) g o p k c e u z j
 |ko b c e=>
  rw[<- s b r]at e;exact .ko (n b) c e
 |cI f x l hs z=>exact .stat (aO.lA (.cI f x l hs z) r)
 |mc=>simp[AV.dK]at hl
 |ax=>simp[AV.dK]at hl
 |gD=>simp[AV.dK]at hl
theorem zi9 (o:∀ b,m b=true ->φ2 (n b)=φ b) {v:Value} {y:AV} (hl:y.dK=true∨∃ sh x,y= .mc sh x) (i:y.ff m=true) (h:aO w F φ v y):aO w F φ2 v (y.sub n):=by
 rcases hl with hl | ⟨sh,x,rfl⟩
 . grind[zb5]
 . simp[AV.ff]at i;cases h with
   |stat h=>
    cases h with
    |mc k _ _ hs e=>exact .mc k sh _ hs λj f=>by rw[z50];exact zb5 o (z3v sh x j) (z3w m sh x j i) (.stat (e j f))
   |mc k _ _ hs e=>exact .mc k sh _ hs λj f=>by rw[z50];exact zb5 o (z3v sh x j) (z3w m sh x j i) (e j f)
theorem zet (s:∀ b,m b=true ->φ2 (n b)=φ b) {v:Value} {y:AV} (hl:y.dK=true) (r:y.ff m=true) (h:aO w F φ2 v (y.sub n)):aO w F φ v y:=by
 cases y with
 |own b k=>
  cases h with
  |stat h=>cases h
  |own _ g _ e u=>rw[s b r]at e u ⊢;exact .own b g k e u
  |iT _ e=>rw[s b r]at e;exact .iT b e
 |ptr b p=>
  cases h with
  |stat h=>cases h
  |ptr _ g _ e j=>rw[s b r]at e j ⊢;exact .ptr b g p e j
 |bB b i p=>
  cases h with
  |stat h=>cases h
  |bB _ g _ _ e j=>rw[s b r]at e j ⊢;exact .bB b g i p e j
 |bS b o k c=>
  cases h with
  |stat h=>cases h
  |bS _ g _ p _ _ e u x j=>rw[s b r]at e u x j ⊢;exact .bS b g o p k c e u x j
  |ko _ _ e=>rw[s b r]at e;exact .ko b c e
 |cI f l=>exact .stat (h.lA r)
 |agg=>simp[AV.dK]at hl
 |arr=>simp[AV.dK]at hl
 |mc=>simp[AV.dK]at hl
 |ax=>simp[AV.dK]at hl
 | «when» =>simp[AV.dK]at hl
 |_=>exact .stat (h.lA rfl)
theorem zni (o:∀ b,m b=true ->φ2 (n b)=φ b) {v:Value} {y:AV} (hl:y.dK=true∨∃ sh x,y= .mc sh x) (i:y.ff m=true) (h:aO w F φ2 v (y.sub n)):aO w F φ v y:=by
 rcases hl with hl | ⟨sh,x,rfl⟩
 . grind[zet]
 . simp[AV.ff]at i;cases h with
   |stat h=>
    cases h with
    |mc k _ _ hs e=>
     refine .mc k sh _ hs λj f=>?_;have :=e j f;rw[z50]at this;exact zet o (z3v sh x j) (z3w m sh x j i) (.stat this)
   |mc k _ _ hs e=>
    refine .mc k sh _ hs λj f=>?_;have :=e j f;rw[z50]at this;exact zet o (z3v sh x j) (z3w m sh x j i) this
theorem z8z {y:AV} (h:zsg y=true):y.dK=true∨∃ sh x,y= .mc sh x:=by
 cases y<;>first |exact .inl h |exact .inr ⟨_,_,rfl⟩
theorem z5i:∀ {l:List AV} {j:Nat},z9x l=true ->j<l.length ->zsg (l.getD j .any)=true
 |x::l,0,h,_=>by simp only[z9x,xa]at h;simpa using h.1
 |x::l,j+1,h,e=>by simp[z9x]at h;simpa using z5i h.2 (by simpa using e)
 | [],_,_,e=>by simp at e
theorem z69 {m:Nat ->Bool}:∀ {l:List AV} {j:Nat},AV.hY m l=true ->j<l.length ->(l.getD j .any).ff m=true
 |x::l,0,h,_=>by simp only[AV.hY,xa]at h;simpa using h.1
 |x::l,j+1,h,e=>by simp[AV.hY]at h;simpa using z69 h.2 (by simpa using e)
 | [],_,_,e=>by simp at e
theorem z90 (n:Nat ->Nat):∀ (l:List AV) (j:Nat),j<l.length ->(AV.me n l).getD j .any=(l.getD j .any).sub n
 |x::l,0,_=>rfl
 |x::l,j+1,e=>by simpa [AV.me]using z90 n l j (by simpa using e)
 | [],_,e=>by simp at e
theorem z7p (n:Nat ->Nat):∀ l:List AV,(AV.me n l).length=l.length
 | []=>rfl
 |x::l=>by simp[AV.me,z7p n l]
theorem zia (k:∀ b,m b=true ->φ2 (n b)=φ b) {v:Value} {y:AV} (f:Aq m y=true) (h:aO w F φ v y):aO w F φ2 v (y.sub n):=by
 cases y with
 |ax l=>
  simp[Aq]at f;cases h with
  |stat h=>cases h
  |ax i _ hs o=>
   refine .ax i _ (by rw[z7p];exact hs) λj e=>?_;rw[z7p]at e;rw[z90 n l j e];exact zi9 k (z8z (z5i f.1 e)) (z69 f.2 e) (o j e)
 |_=>
  grind[Aq,zi9,z8z]
theorem zzq (o:∀ b,m b=true ->φ2 (n b)=φ b) {v:Value} {y:AV} (f:Aq m y=true) (h:aO w F φ2 v (y.sub n)):aO w F φ v y:=by
 cases y with
 |ax l=>
  simp[Aq]at f;cases h with
  |stat h=>cases h
  |ax k _ hs i=>
   rw[z7p]at hs i;refine .ax k _ hs λj e=>?_;have :=i j e;rw[z90 n l j e]at this;exact zni o (z8z (z5i f.1 e)) (z69 f.2 e) this
 |_=>
  grind[Aq,zni,z8z]
end
def O0 (P:Program) (G:List (Nat×AV)) (f:FuncId) (args:List AV) (r:AV) (cs:List aw):Prop:=
 ∀ (w:World) (F:Nat ->Prop) (vs:Array Value),(∀ k,F k ->k<w.heap.size) ->(∀ g x,get G g=some x ->ay w F (.pointer (some ⟨g,0,none⟩)) x) ->vs.size=args.length ->
  (∀ j,j<args.length ->ay w F (vs.getD j undef) (args.getD j .any)) ->
  Calls P f vs w λen h=>∃ v F' e,en= .returned v/\Below w.heap.size w h/\(∀ k,F k ->F' k)/\(∀ k,F' k ->F k∨w.heap.size<=k)/\(∀ k,F' k ->k<h.heap.size)/\aO h F' e v r/\
   (∀ i c,cs[i]? =some c ->z24 h F' e (λk=>w.heap.size<=k) i c)/\∀ i i' g,i<cs.length ->i'<cs.length ->(e i).bY=some g ->(e i').bY=some g ->i=i'
def aw.sub (n:Nat ->Nat):aw ->aw
 | .cell tc sh x=> .cell tc sh (x.sub n)
 |c=>c
def aw.only (m:Nat ->Bool):aw ->Bool
 | .cell _ _ x=>x.ff m
 |_=>true
section
variable {w:World} {F:Nat ->Prop} {φ φ2:Nat ->Place} {n:Nat ->Nat} {m:Nat ->Bool} {B:Nat ->Prop}
theorem znj (e:∀ b,m b=true ->φ2 (n b)=φ b) {i:Nat} {c:aw} (o:m i=true) (K:c.only m=true) (h:z24 w F φ B i c):z24 w F φ2 B (n i) (c.sub n):=by
 cases c with
 |cell tc sh x=>
  have⟨u,g,M,s,r,J,H,E,z⟩:=h;refine⟨by rw[e i o];exact u,g,M,by rw[e i o];exact s,r,J,H,E,λj y=>?_⟩;rw[z50];exact zb5 e (z3v sh x j) (z3w m sh x j K) (z j y)
 |row ty sh k f=>
  have⟨u,s,r⟩:=h;exact⟨by rw[e i o];exact u,by rw[e i o];exact s,by rw[e i o];exact r⟩
theorem awc (s:∀ b,m b=true ->φ2 (n b)=φ b) {i:Nat} {c:aw} (u:m i=true) (K:c.only m=true) (h:z24 w F φ2 B (n i) (c.sub n)):z24 w F φ B i c:=by
 cases c with
 |cell tc sh x=>
  have⟨o,g,M,e,r,J,H,E,z⟩:=h;rw[s i u]at o e;refine⟨o,g,M,e,r,J,H,E,λj y=>?_⟩;have :=z j y;rw[z50]at this;exact zet s (z3v sh x j) (z3w m sh x j K) this
 |row ty sh k f=>
  have⟨o,e,r⟩:=h;rw[s i u]at o e r;exact⟨o,e,r⟩
end
end Go.AV
