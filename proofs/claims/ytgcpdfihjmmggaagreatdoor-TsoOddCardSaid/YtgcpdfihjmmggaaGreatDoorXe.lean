import Derived.Test.YtgcpdfihjmmggaaGreatDoorXd
namespace Go.AV
open Go.RowKit
section
variable {C:bu} {W0:Entry} {F0:Nat ->Prop} {st st':St} {a:Act} {w:World} {F:Nat ->Prop} {φ:Nat ->Place} {e:Operand ->Option AV} {dst:Option Nat} {b9:FuncId ->List AV ->Option AV} {CC:FuncId ->List AV ->AV ->Prop} {r:iT} {o:Oper}
 {next:Act ->World ->Prop} {Q:Exit ->Act ->World ->Prop}
def PB (w:World) (F:Nat ->Prop) (v:Value) (sh:Shape) (m:Nat) (g:Nat ->AV):Prop:=
 ∃ A c,v= .slice A m c/\(0<m ->∃ b o,∃ cs:Nat ->Nat ->Value,A=some ⟨b,o,none⟩/\(∀ i,i<m ->∀ j,j<sh.size ->w.cell? ⟨b,o+(i*sh.size+j),none⟩=some (cs i j))/\
  (∀ i,i<m ->∀ j,j<sh.size ->au w F (cs i j) (z6 sh (g i) j)))
theorem Za {v:Value} {sh:Shape} {m:Nat} {g:Nat ->AV} (h:aG w F φ v (.seq sh m g)∨aG w F φ v (.bD sh m g)):PB w F v sh m g:=by
 obtain⟨A,c,hv,hc⟩:=aG.aot h
 exact⟨A,c,hv,λhm=>by obtain⟨_,b,o,cs,h1,_,h2,h3⟩:=hc hm;exact⟨b,o,cs,h1,h2,h3⟩⟩
theorem zk4 {v:Value} {sh:Shape} {g:Nat ->AV} (h:aG w F φ v .ax):PB w F v sh 0 g:=by
 cases h with
 |stat h=>cases h;exact⟨_,_,rfl,λh=>absurd h (by omega)⟩
theorem zzn (h:Rel C W0 F0 st a w F φ) {v:Value} {b m n':Nat} {ty:TypeId} {sh:Shape} {g:Nat ->AV} (hv:aG w F φ v (.own b m)) (hb:get st.heap b=some (.row ty sh n' g)) (hm:m<=n'):PB w F v sh m g:=by
 obtain⟨hsh,_,hrow⟩:=h.heap b _ hb
 rcases hv.dw with⟨gb,hg,rfl,hc⟩ | ⟨hg,h0,rfl⟩
 . rcases hrow with⟨h1,_⟩ | ⟨g',cs,hg',_,_,hh,hsz,hnc,_,hrep⟩
   . grind
   . obtain rfl:g'=gb:=by rw[hg]at hg';injection hg' with e;exact e.symm
     refine⟨_,_,rfl,λhm0=>⟨g',0,λi j=>cs.getD (i*sh.size+j) undef,rfl,λi hi j hj=>?_,λi hi j hj=>hrep i (by omega) j hj⟩⟩
     have hmul:(i+1)*sh.size<=(φ b).cap*sh.size:=xn _ (by omega)
     rw[y7]at hmul
     rw[xw];exact nq hh (by omega)
 . subst h0;exact⟨_,_,rfl,λh=>absurd h (by omega)⟩
theorem zb4 {v:Value} {sh:Shape} {m:Nat} {g:Nat ->AV} (h:PB w F v sh m g) (hpos:0<sh.size):∃ A c,∃ news:List Value,v= .slice A m c/\news.length=m*sh.size/\(0<m ->∃ ad,A=some ad/\∀ j u,news[j]? =some u ->w.cell? (ad.add j)=some u)/\
 (∀ i,i<m ->∀ j,j<sh.size ->∃ u,news[i*sh.size+j]? =some u/\au w F u (z6 sh (g i) j))/\∀ u∈news,u.oneCell'=true:=by
 obtain⟨A,c,hv,hc⟩:=h
 rcases wi m with h0 |h0
 . simp_all
 . obtain⟨b,o,cs,hA,h1,h2⟩:=hc h0
   have hix:∀ i j,i<m ->j<sh.size ->i*sh.size+j<m*sh.size:=by
    intro i j hi hj
    have hmul:(i+1)*sh.size<=m*sh.size:=xn _ hi
    rw[y7]at hmul;omega
   have hdm:∀ i j,j<sh.size ->(i*sh.size+j)/sh.size=i/\(i*sh.size+j) % sh.size=j:=by
    intro i j hj
    rw[gw i,jl hpos,jm,ji hj,jj hj]
    omega
   have hget:∀ q,q<m*sh.size ->((List.range (m*sh.size)).map λq=>cs (q/sh.size) (q % sh.size))[q]? =some (cs (q/sh.size) (q % sh.size)):=by
    grind
   refine⟨A,c,(List.range (m*sh.size)).map λq=>cs (q/sh.size) (q % sh.size),hv,by simp,λ_=>⟨_,hA,λq u hu=>?_⟩,λi hi j hj=>⟨_,hget _ (hix i j hi hj), ?_⟩,λu hu=>?_⟩
   . have hq:q<m*sh.size:=by have :=(yw.1 hu).1;simpa using this
     rw[hget q hq]at hu
     cases hu
     rw[wY]
     have :=h1 (q/sh.size) ((Nat.div_lt_iff_lt_mul hpos).2 hq) (q % sh.size) (Nat.mod_lt _ hpos)
     rw[gw,Nat.div_add_mod]at this
     exact this
   . obtain⟨d1,d2⟩:=hdm i j hj
     grind
   . simp at hu
     obtain⟨q,hq,rfl⟩:=hu
     exact au.fa sh _ _ (h2 (q/sh.size) ((Nat.div_lt_iff_lt_mul hpos).2 hq) (q % sh.size) (Nat.mod_lt _ hpos))
theorem Rel.Hn (h:Rel C W0 F0 st a w F φ) {d:Nat} {c:ar} (hf:jL st d=true) (hc:c.names d=false) (pl:Place)
 (hpl:∀ b c' g,get st.heap b=some c' ->(φ b).bV=some g ->pl.bV≠some g)
 (hB:z24 w F (λk=>if k=d then pl else φ k) W0.B d c):
 Rel C W0 F0 {st with heap:=put st.heap d c} a w F (λk=>if k=d then pl else φ k):=by
 simp only[jL,xi,xg]at hf
 obtain⟨fe,fh,fl⟩:=hf
 refine⟨λs x hs=>?_,λb c' hc'=>?_, ?_,h.ro,h.base,h.sub,h.new,h.eR,h.iC,h.aoi,zi0 h.gV fl⟩
 . obtain⟨v,hv,hr⟩:=h.env s x hs
   refine⟨v,hv,hr.keep (λ_ _=>rfl) (λ_ hk=>hk) λb hb=>nT φ d pl λe=>?_⟩
   subst e
   rw[Tp hs fe]at hb;cases hb
 . by_cases e:b=d
   . subst e
     rw[zv]at hc'
     grind
   . rw[zb _ _ _ _ e]at hc'
     have hb:=h.heap b c' hc'
     refine hb.keep (λ_ _=>rfl) (λ_ hk=>hk) (λg hg=>⟨rfl,(hb.lt hg).2.1⟩) (nT φ d pl e) λb' hb'=>nT φ d pl λe=>?_
     subst e
     rw[(Og hc' fh).1]at hb';cases hb'
 . intro b b' c1 c2 g h1 h2 h3 h4
   by_cases e:b=d
   . by_cases e':b'=d
     . omega
     . rw[zb _ _ _ _ e']at h2
       simp[e]at h3
       simp[e']at h4
       exact absurd h3 (hpl b' c2 g h2 h4)
   . rw[zb _ _ _ _ e]at h1
     simp[e]at h3
     by_cases e':b'=d
     . simp[e']at h4
       exact absurd h4 (hpl b c1 g h1 h3)
     . rw[zb _ _ _ _ e']at h2
       simp[e']at h4
       exact h.inj b b' c1 c2 g h1 h2 h3 h4
theorem z8h {b:Nat}:∀ {l:List (Nat×AV)} {s:Nat} {x:AV},get (V9 b l) s=some x ->∃ y,get l s=some y/\((y=x/\x.names b=false)∨x= .when false .any)
 | [],_,_,h=>by simp[V9,get]at h
 | (k,v)::l,s,x,h=>by
  simp[V9,get]at h ⊢
  split at h
  . refine⟨v,rfl, ?_⟩
    cases h
    split
    . exact .inr rfl
    . rename_i hn;exact .inl ⟨rfl,hn⟩
  . exact z8h h
mutual
theorem z8i {b:Nat}:∀ (sh:Shape) (x:AV) (j:Nat),(z6 sh (x.kill b) j=z6 sh x j/\(z6 sh x j).names b=false)∨z6 sh (x.kill b) j= .any
 | .leaf,x,j=>by
  simp[z6]
  cases x with
  |own c n=>simp[AV.kill];cases h:Nat.beq c b<;>simp[h,eC,AV.b8,AV.names]
  |ptr c n=>simp[AV.kill];cases h:Nat.beq c b<;>simp[h,eC,AV.b8,AV.names]
  |bq c i n=>simp[AV.kill];cases h:Nat.beq c b<;>simp[h,eC,AV.b8,AV.names]
  |bJ c i n q=>simp[AV.kill];cases h:Nat.beq c b<;>simp[h,eC,AV.b8,AV.names]
  |c8 f l=>simp[AV.kill];cases h:AV.bG b l<;>simp[h,eC,AV.b8,AV.names]
  |_=>simp[AV.kill,eC,AV.b8,AV.names]
 | .agg ss,x,j=>by
  cases x with
  |agg xs=>simp[z6];exact zai ss xs j
  |own c n=>right;simp[AV.kill];cases h:Nat.beq c b<;>simp[z6]
  |ptr c n=>right;simp[AV.kill];cases h:Nat.beq c b<;>simp[z6]
  |bq c i n=>right;simp[AV.kill];cases h:Nat.beq c b<;>simp[z6]
  |bJ c i n q=>right;simp[AV.kill];cases h:Nat.beq c b<;>simp[z6]
  |c8 f l=>right;simp[AV.kill];cases h:AV.bG b l<;>simp[z6]
  |_=>right;simp[AV.kill,z6]
 | .arr n s,x,j=>by
  cases x with
  |arr m f=>left;simp[AV.kill,z6,AV.names]
  |own c n=>right;simp[AV.kill];cases h:Nat.beq c b<;>simp[z6]
  |ptr c n=>right;simp[AV.kill];cases h:Nat.beq c b<;>simp[z6]
  |bq c i n=>right;simp[AV.kill];cases h:Nat.beq c b<;>simp[z6]
  |bJ c i n q=>right;simp[AV.kill];cases h:Nat.beq c b<;>simp[z6]
  |c8 f l=>right;simp only[AV.kill];cases h:AV.bG b l<;>simp[z6]
  |_=>right;simp[AV.kill,z6]
theorem zai {b:Nat}:∀ (ss:List Shape) (xs:List AV) (j:Nat),(zh ss (AV.kH b xs) j=zh ss xs j/\(zh ss xs j).names b=false)∨zh ss (AV.kH b xs) j= .any
 |s::ss,x::xs,j=>by
  simp only[AV.kH,zh]
  split
  . exact z8i s x j
  . exact zai ss xs _
 | [],_,_=>by right;cases ‹List AV› <;>simp[zh]
 |_::_,[],_=>by right;simp[AV.kH,zh]
end
theorem z37 {b:Nat}:∀ {l:List (Nat×ar)} {s:Nat} {c:ar},get (Xn b l) s=some c ->∃ d,get l s=some d/\c=d.kill b
 | [],_,_,h=>by simp[Xn,get]at h
 | (k,v)::l,s,c,h=>by
  simp[Xn,get]at h ⊢
  split at h
  . cases h;exact⟨v,rfl,rfl⟩
  . exact z37 h
theorem zdq {b:Nat} {c:ar}:(c.kill b).isRow=c.isRow:=by
 cases c with
 |cell tc sh x=>simp[ar.kill];split<;>rfl
 |row=>rfl
theorem z24.pH {w w':World} {F F':Nat ->Prop} {φ φ':Nat ->Place} {base:Nat ->Prop} {b d:Nat} {c:ar} (h:z24 w F φ base b c) (hw:∀ k,F k ->w'.heap[k]? =w.heap[k]?) (hF:∀ k,F k ->F' k)
 (hg:∀ g,(φ b).bV=some g ->w'.heap[g]? =w.heap[g]? /\¬ F' g) (hb:φ' b=φ b) (hφ:∀ e,e≠d ->φ' e=φ e):z24 w' F' φ' base b (c.kill d):=by
 cases c with
 |cell tc sh x=>
  simp[ar.kill]
  cases hn:x.names d with
  |false=>exact h.keep hw hF hg hb λe he=>hφ e λe'=>by subst e';simp[ar.names]at he;rw[hn]at he;cases he
  |true=>
   obtain⟨h0,g,cs,h1,h2,h3,h4,h5,h6⟩:=h
   refine⟨by rw[hb];exact h0,g,cs,by rw[hb];exact h1,h2,(hg g h1).2,(hg g h1).1.trans h4,h5,λj hj=>?_⟩
   rcases z8i (b:=d) sh x j with⟨k1,k2⟩ |k1
   . rw[k1]
     exact(h6 j hj).keep hw hF λe he=>hφ e λe'=>by grind
   . rw[k1]
     exact .stat (.any _ (aG.fa sh x j (h6 j hj)))
 |row ty sh n f=>exact h.keep hw hF hg hb λe he=>by simp[ar.names]at he
theorem Rel.uL (h:Rel C W0 F0 st a w F φ) {b:Nat} {c c':ar} {w':World} {row:Option Nat} (hb:get st.heap b=some c) (hg:w.grownBy w' row)
 (hkd:c.isRow=true) (hrow:∀ g,row=some g ->(φ b).bV=some g) (pl:Place) (hpl:∀ g,pl.bV=some g ->(φ b).bV=some g∨w.heap.size<=g) (hB:z24 w' F (λk=>if k=b then pl else φ k) W0.B b c'):
 Rel C W0 F0 {env:=V9 b st.env,heap:=put (Xn b st.heap) b c'} a w' F (λk=>if k=b then pl else φ k):=by
 have hfar:∀ k,k<w.heap.size ->(∀ g,(φ b).bV=some g ->k≠g) ->w'.heap[k]? =w.heap[k]? :=λk hk hne=>hg.block k hk λe=>hne k (hrow k e.symm) rfl
 have hk:∀ k,F k ->w'.heap[k]? =w.heap[k]? :=λk hk=>hfar k (h.ro k hk) λg hgb e=>((h.heap b c hb).lt hgb).2.1 (e ▸ hk)
 have hother:∀ b' c1 g,b'≠b ->get st.heap b'=some c1 ->(φ b').bV=some g ->w'.heap[g]? =w.heap[g]? :=λb' c1 g hne hb' hg'=>
  hfar g ((h.heap b' c1 hb').lt hg').1 λg2 hg2 e=>hne (h.inj b' b c1 c g hb' hb hg' (e ▸ hg2))
 refine⟨λs x hs=>?_,λb' c1 hc1=>?_, ?_,λk hk=>wj (h.ro k hk) hg.size, ?_,h.sub,h.new,h.eR,h.iC,λg x hgx=>(h.aoi g x hgx).keep hk λ_ hk=>hk,λb' p hp=>?_⟩
 . obtain⟨y,hy,hyx⟩:=z8h hs
   obtain⟨v,hv,hr⟩:=h.env s y hy
   rcases hyx with⟨rfl,hn⟩ |rfl
   . refine⟨v,hv,hr.keep hk (λ_ hk=>hk) λd hd=>nT φ b pl λe=>?_⟩
     grind
   . exact⟨v,hv, .eZ false (λh=>by cases h) λ_=> .inr rfl⟩
 . by_cases e:b'=b
   . subst e
     rw[zv]at hc1
     grind
   . rw[zb _ _ _ _ e]at hc1
     obtain⟨c0,hc0,rfl⟩:=z37 hc1
     have hb':=h.heap b' c0 hc0
     exact hb'.pH hk (λ_ hk=>hk) (λg hg'=>⟨hother b' c0 g e hc0 hg',(hb'.lt hg').2.1⟩) (nT φ b pl e) λd hd=>nT φ b pl hd
 . intro b1 b2 c1' c2' g h1' h2' h3 h4
   have new:∀ b' c1 g,b'≠b ->get st.heap b'=some c1 ->(φ b').bV=some g ->pl.bV≠some g:=by
    intro b' c1 g hne hb' hg' hp
    rcases hpl g hp with h5 |h5
    . exact hne (h.inj b' b c1 c g hb' hb hg' h5)
    . have :=((h.heap b' c1 hb').lt hg').1;omega
   by_cases e:b1=b
   . by_cases e':b2=b
     . omega
     . rw[zb _ _ _ _ e']at h2'
       obtain⟨c2,h2,_⟩:=z37 h2'
       simp[e]at h3
       simp[e']at h4
       exact absurd h3 (new b2 c2 g e' h2 h4)
   . rw[zb _ _ _ _ e]at h1'
     obtain⟨c1,h1,_⟩:=z37 h1'
     simp[e]at h3
     by_cases e':b2=b
     . simp[e',wu]at h4
       exact absurd h4 (new b1 c1 g e h1 h3)
     . rw[zb _ _ _ _ e']at h2'
       obtain⟨c2,h2,_⟩:=z37 h2'
       simp only[e',yi]at h4
       exact h.inj b1 b2 c1 c2 g h1 h2 h3 h4
 . refine h.base.trans (L':=λk=>row=some k) ⟨hg.os,hg.tape,hg.output,hg.size,λk hk hn=>hg.block k hk λe=>hn e.symm⟩ λi hi hlt=>?_
   exact(((h.heap b c hb).lt (hrow i hi)).2.2).resolve_left (by omega)
 . obtain⟨a1,a2,a3⟩:=h.gV b' p hp
   have hne:b'≠b:=λe=>by grind
   refine⟨a1,by simp only[hne,yi];exact a2,λc1 hc1=>?_⟩
   rw[zb _ _ _ _ hne]at hc1
   obtain⟨c0,hc0,rfl⟩:=z37 hc1
   rw[zdq];exact a3 c0 hc0
theorem z5h {B:Nat ->Prop} {base b n:Nat} {el:TypeId} {sh:Shape} {f:Nat ->AV} {v:Value} {xs:List Value} (hown:w.ownsRow base el sh.size v n xs)
 (hbn:∀ k,v.ownBlock=some k ->B k) (hF:∀ k,v.ownBlock=some k ->¬ F k) (hx:∀ i,i<n ->∀ j,j<sh.size ->∃ u,xs[i*sh.size+j]? =some u/\au w F u (z6 sh (f i) j)):
 ∃ pl:Place,pl.bV=v.ownBlock/\pl.sh=sh/\pl.ty=el/\∀ φ:Nat ->Place,φ b=pl ->z24 w F φ B b (.row el sh n f)/\aG w F φ v (.own b n):=by
 rcases hown.2 with⟨rfl,rfl⟩ | ⟨g,cap,cur,rfl,hbg,hg,hnc,hcm,hcs,htake⟩
 . exact⟨⟨none,0,sh,el⟩,rfl,rfl,rfl,fun φ hφ=>⟨⟨by rw[hφ],by rw[hφ], .inl ⟨by rw[hφ],rfl⟩⟩, .gX b (by rw[hφ])⟩⟩
 . refine⟨⟨some g,cap,sh,el⟩,rfl,rfl,rfl,fun φ hφ=>⟨⟨by rw[hφ],by rw[hφ], .inr ⟨g,cur,by rw[hφ],hbn g rfl,hF g rfl,hg,by rw[hφ];exact hcs,by rw[hφ];exact hnc,by rw[hφ];exact hcm,λi hi j hj=>?_⟩⟩, ?_⟩⟩
   . obtain⟨u,hu,hr⟩:=hx i hi j hj
     rw[<- htake]at hu
     have hmul:(i+1)*sh.size<=n*sh.size:=xn _ hi
     rw[y7]at hmul
     rw[y5 (by omega),ym]at hu
     simp_all
   . have :=aG.own (w:=w) (F:=F) (φ:=φ) b g n (by rw[hφ]) (by rw[hφ];exact hnc)
     grind
theorem zml {B:Nat ->Prop} {b n m:Nat} {el:TypeId} {sh:Shape} {f:Nat ->AV} {v:Value} (hB:z24 w F φ B b (.row el sh n f)) (hv:aG w F φ v (.own b m)) (hm:m=n):
 ∃ xs,w.ownsRow 0 el sh.size v n xs/\(∀ k,v.ownBlock=some k ->(φ b).bV=some k)/\∀ i,i<n ->∀ j,j<sh.size ->∃ u,xs[i*sh.size+j]? =some u/\au w F u (z6 sh (f i) j):=by
 subst hm
 obtain⟨hsh,hty,hrow⟩:=hB
 rcases hv.dw with⟨g,hg,rfl,hc⟩ | ⟨hg,h0,rfl⟩
 . rcases hrow with⟨h1,_⟩ | ⟨g',cs,hg',hbase,_,hh,hsz,hnc,hmax,hrep⟩
   . grind
   . obtain rfl:g'=g:=by rw[hg]at hg';injection hg' with e;exact e.symm
     have hmul:m*sh.size<=(φ b).cap*sh.size:=xn _ hnc
     refine⟨cs.toList.take (m*sh.size),⟨by simp;omega, .inr ⟨g',_,cs,rfl,xt _,hh,hnc,hmax,hsz,rfl⟩⟩,λk hk=>by simp[Value.ownBlock]at hk;subst hk;exact hg,λi hi j hj=>⟨_, ?_,hrep i hi j hj⟩⟩
     have hmul2:(i+1)*sh.size<=m*sh.size:=xn _ hi
     rw[y7]at hmul2
     rw[y5 (by omega),ym,xb,y4 (by omega),yj]
 . subst h0
   exact⟨[],World.ownsRow_nil _ _ _ _,λk hk=>by simp[Value.ownBlock]at hk,λi hi=>absurd hi (by omega)⟩
theorem zbv {P:Program} (base:Nat) (t ty e:TypeId) (i:TypeInfo) (size:Nat) (ht:P.underlying t=some (.slice e)) (hi:P.info? e=some i)
 (v:Value) (n:Nat) (xs:List Value) (hown:w.ownsRow base e size v n xs) (c:Nat):(Builtin.append_ #[t,t] ty #[v, .slice none 0 c]).run P w= .ok v w:=by
 rcases hown.2 with⟨rfl,rfl⟩ | ⟨g,cap,cur,rfl,_,_,hnc,_⟩
 . simp[Builtin.append_,run_underlying ht,sizeOf,typeInfo,hi,Builtin.lenOf,Builtin.firstCells]
 . simp[Builtin.append_,run_underlying ht,sizeOf,typeInfo,hi,Builtin.lenOf,Builtin.firstCells,hnc,storeCells]
theorem zdr {el t ty:TypeId} {tl:cN} (hT:gn C) (htl:aU C el=some tl) (hu:C.P.underlying t=some (.slice el)) {base n m:Nat} {v u:Value} {xs:List Value} {g:Nat ->AV} {sh:Shape} (hsh:sh=tl.sh) (hown:w.ownsRow base el sh.size v n xs)
 (hs:PB w F u sh m g) (h63:n+m<=9223372036854775807) (hbytes:((n+m:Nat):Int)*tl.bytes<=140737488355328) (hbase:base<=w.heap.size):
 ∃ v' w' news,(Builtin.append_ #[t,t] ty #[v,u]).run C.P w= .ok v' w'/\w'.ownsRow base el sh.size v' (n+m) (xs++news)/\w.grownBy w' v.ownBlock/\(v'.ownBlock=v.ownBlock∨v'.ownBlock=some w.heap.size)/\
  (∀ i,i<m ->∀ j,j<sh.size ->∃ u,news[i*sh.size+j]? =some u/\au w F u (z6 sh (g i) j)):=by
 subst hsh
 have Tl:=hT _ _ htl
 obtain⟨dd,ie,z,hue,hie,hse,hbe,hz,hzs,_,hzr⟩:=Tl.info
 obtain⟨A,c,news,rfl,hl,hA,hn,h1⟩:=zb4 hs Tl.pos
 have hb2:(n+m)*tl.bytes<=140737488355328:=by
  omega
 rcases wi m with h0 |h0
 . subst h0
   have hn0:news=[]:=xz (by simpa using hl)
   subst hn0
   cases A with
   |none=>exact⟨v,w,[],zbv base t ty el ie _ hu hie v n xs hown c,by simpa using hown,World.grownBy.refl w _, .inl rfl,hn⟩
   |some ad=>
    obtain⟨v',w',hr,h2,h3,_,h5⟩:=run_append_own_at (P:=C.P) w base t ty el ie z _ _ hu hie hz hse hbe hzs Tl.pos v n xs hown ad 0 c [] (by simp) (λj u hj=>by simp at hj) (by simp) (by unfold maxLen;omega) hb2 hbase
    exact⟨v',w',[],hr,h2,h3,h5,hn⟩
 . obtain⟨ad,rfl,hc⟩:=hA h0
   obtain⟨v',w',hr,h2,h3,_,h5⟩:=run_append_own_at (P:=C.P) w base t ty el ie z _ _ hu hie hz hse hbe hzs Tl.pos v n xs hown ad m c news hl hc h1 (by unfold maxLen;omega) hb2 hbase
   exact⟨v',w',news,hr,h2,h3,h5,hn⟩
theorem zaj {n m:Nat} {sh:Shape} {f g:Nat ->AV} {xs news:List Value} (hl:xs.length=n*sh.size) (hx:∀ i,i<n ->∀ j,j<sh.size ->∃ u,xs[i*sh.size+j]? =some u/\au w F u (z6 sh (f i) j))
 (hn:∀ i,i<m ->∀ j,j<sh.size ->∃ u,news[i*sh.size+j]? =some u/\au w F u (z6 sh (g i) j)):
 ∀ i,i<n+m ->∀ j,j<sh.size ->∃ u,(xs++news)[i*sh.size+j]? =some u/\au w F u (z6 sh (if i<n then f i else g (i - n)) j):=by
 intro i hi j hj
 by_cases h:i<n
 . have hmul:(i+1)*sh.size<=n*sh.size:=xn _ h
   grind
 . have e:i*sh.size=n*sh.size+(i - n)*sh.size:=by rw[<- y7];congr 1;omega
   rw[y6 (by omega),x8 h,hl,show i*sh.size+j - n*sh.size=(i - n)*sh.size+j from by omega]
   exact hn (i - n) (by omega) j hj
theorem zng {c:Call} (h:Rel C W0 F0 st a w F φ) (hT:gn C) (ho:o.op= .call c) (hc:c.callee= .builtin .append) (hr:zl C st e o.dst b9 CC (.call c)=some r)
 (hx:∀ x∈c.args.toList,∀ u,e x=some u ->aG w F φ (a.eval x) u) (hob:∀ p∈r.iD,p) (hst:zx st o.dst r.gP=some st') (hn:Next C W0 F0 st' a o r.val next):o.wp C.P a w next Q:=by
 simp only[zl,hc]at hr
 split at hr
 case h_2=>cases hr
 rename_i x y t t' d hargs htys hd
 split at hr
 case h_2=>cases hr
 rename_i te v u h1 htt h2 h3
 have :=xc htt
 subst this
 split at hr
 case h_2=>cases hr
 rename_i el hkind
 split at hr
 case h_2=>cases hr
 rename_i tl htl
 split at hr
 case h_2=>cases hr
 rename_i su m g ps hsrc
 have ea:c.args=#[x,y]:=by rw[<- g7 (xs:=c.args),hargs]
 have et:c.argTypes=#[t,t]:=by rw[<- g7 (xs:=c.argTypes),htys]
 have T:=hT _ _ h1
 have Tl:=hT _ _ htl
 have hu:=RD T hkind
 have hV:=hx x (by rw[hargs];simp) v h2
 have hU:=hx y (by rw[hargs];simp) u h3
 have fin:∀ {v':Value} {w':World},(Builtin.append_ #[t,t] o.type #[a.eval x,a.eval y]).run C.P w= .ok v' w' ->next (a.put o.dst v') w' ->o.wp C.P a w next Q:=by
  intro v' w' hrun hnx
  unfold Oper.wp
  have :(execOp a.eval o).run C.P w= .ok (.value v') w':=by
   refine UU ho hc ?_
   rw[ea,et]
   simp only[builtin,Sem.run_bind]
   have :(#[x,y].map a.eval)=#[a.eval x,a.eval y]:=by simp
   rw[this,hrun]
   rfl
  rw[this]
  exact hnx
 have grow2:∀ {w':World},w.grownBy w' none ->Below w.heap.size w w':=λhg=>(Below.refl _ _).grown hg (xm _) (by simp)
 have hs:(∀ p∈ps,p) ->PB w F (a.eval y) su m g:=by
  intro hps
  cases u<;>simp only[xq,yn,reduceCtorEq]at hsrc
  . obtain⟨rfl,rfl,rfl,rfl⟩:=hsrc;exact zk4 hU
  . obtain⟨rfl,rfl,rfl,rfl⟩:=hsrc;exact Za (.inl hU)
  . obtain⟨rfl,rfl,rfl,rfl⟩:=hsrc;exact Za (.inr hU)
  . split at hsrc
    . rename_i hb
      simp only[xq,yn]at hsrc
      obtain⟨rfl,rfl,rfl,rfl⟩:=hsrc
      exact zzn h hU hb (hps _ (by simp))
    . cases hsrc
 have VX:∃ vx,vx=a.eval x:=⟨_,rfl⟩
 obtain⟨vx,hvx⟩:=VX
 rw[<- hvx]at hV
 have finNew:∀ {v':Value} {w':World} {n:Nat} {f:Nat ->AV} {xs:List Value},(Builtin.append_ #[t,t] o.type #[a.eval x,a.eval y]).run C.P w= .ok v' w' ->w'.ownsRow 0 el su.size v' n xs ->w.grownBy w' none ->
  (v'.ownBlock=none∨v'.ownBlock=some w.heap.size) ->(∀ i,i<n ->∀ j,j<su.size ->∃ u,xs[i*su.size+j]? =some u/\au w F u (z6 su (f i) j)) ->zx st o.dst (.new (.row el su n f))=some st' ->r.val= .own d n ->o.wp C.P a w next Q:=by
  intro v' w' n f xs hrun h4 h5 h6 h7 hst hval
  refine fin hrun ?_
  have hb:=grow2 h5
  have hR:=h.grown hb (λ_ hk=>hk) (λk hk=> .inl hk) λk hk=>wj (h.ro k hk) hb.size
  have hkeep:∀ k,F k ->w'.heap[k]? =w.heap[k]? :=λk hk=>hb.block k (h.ro k hk)
  obtain⟨pl,p1,p2,p3,p4⟩:=z5h (F:=F) (B:=W0.B) (base:=0) (b:=d) (f:=f) h4 (λk hk=>by
   rcases h6 with h6 |h6
   . rw[h6]at hk;cases hk
   . rw[h6]at hk;cases hk;exact h.nP (xm _)) (λk hk hF=>by
   rcases h6 with h6 |h6
   . rw[h6]at hk;cases hk
   . rw[h6]at hk;cases hk;have :=h.ro _ hF;omega) (λi hi j hj=>by
     obtain⟨uu,hu1,hu2⟩:=h7 i hi j hj
     exact⟨uu,hu1,hu2.keep hkeep λ_ hk=>hk⟩)
  rw[hd]at hst
  simp only[zx]at hst
  split at hst
  case h_2=>cases hst
  rename_i hfr
  cases hst
  simp only[xa,xi]at hfr
  obtain⟨B1,B2⟩:=p4 (λk=>if k=d then pl else φ k) (by simp)
  refine hn v' w' F _ (hR.Hn hfr.1 hfr.2 pl (λb c' gg hb' hg' hp=>?_) B1) λ_=>by rw[hval];exact B2
  rw[p1]at hp
  rcases h6 with h6 |h6
  . rw[h6]at hp;cases hp
  . rw[h6]at hp;cases hp;have :=((h.heap b c' hb').lt hg').1;omega
 have finLay:∀ {v':Value} {w':World} {n:Nat} {f:Nat ->AV} {xs:List Value},(Builtin.append_ #[t,t] o.type #[a.eval x,a.eval y]).run C.P w= .ok v' w' ->w'.ownsRow 0 el su.size v' n xs ->w.grownBy w' none ->
  (v'.ownBlock=none∨v'.ownBlock=some w.heap.size) ->(∀ i,i<n ->∀ j,j<su.size ->∃ u,xs[i*su.size+j]? =some u/\au w F u (z6 su (f i) j)) ->zx st o.dst .none=some st' ->r.val= .seq su n f ->o.wp C.P a w next Q:=by
  intro v' w' n f xs hrun h4 h5 h6 h7 hst hval
  refine fin hrun ?_
  simp only[zx,xq]at hst
  subst hst
  have hb:=grow2 h5
  have hkeep:∀ k,F k ->w'.heap[k]? =w.heap[k]? :=λk hk=>hb.block k (h.ro k hk)
  obtain⟨hlen,⟨rfl,rfl⟩ | ⟨g0,cap,cur,rfl,_,hc1,hc2,hc3,hc4,hc5⟩⟩:=h4
  . have hR:=h.grown hb (λ_ hk=>hk) (λk hk=> .inl hk) λk hk=>wj (h.ro k hk) hb.size
    refine hn _ _ F φ hR λ_=>?_
    rw[hval];exact .stat (.cH _ _ _ _)
  . have hg:g0=w.heap.size:=by
     rcases h6 with h6 |h6
     . cases h6
     . cases h6;rfl
    subst hg
    have hsz:w.heap.size<w'.heap.size:=(xj.1 hc1).1
    refine hn _ _ (λk=>F k∨k=w.heap.size) φ (h.grown hb (λk hk=> .inl hk) (λk hk=>hk.imp id λe=>by omega) λk hk=>?_) λ_=>?_
    . rcases hk with hk |rfl
      . exact wj (h.ro k hk) hb.size
      . exact hsz
    . rw[hval]
      have lt:∀ i,i<n ->∀ j,j<su.size ->i*su.size+j<n*su.size:=λi hi j hj=>by
       have hmul:=xn su.size (show i+1<=n from hi)
       rw[y7]at hmul;omega
      refine .stat (.seq w.heap.size 0 n cap _ _ (λi j=>cur.getD (i*su.size+j) undef) (.inr rfl) hc2 (λi hi j hj=>?_) λi hi j hj=>?_)
      . have hmul2:=xn su.size hc2
        have :=lt i hi j hj
        rw[xw];exact nq hc1 (by rw[hc4];omega)
      . obtain⟨uu,hu1,hu2⟩:=h7 i hi j hj
        have :cur.getD (i*su.size+j) undef=uu:=by
         rw[<- hc5,y5 (lt i hi j hj),ym]at hu1
         rw[xb,hu1];rfl
        rw[this];exact hu2.keep hkeep λ_ hk=> .inl hk
 split at hr
 . -- nil
   rename_i hcond
   simp only[xa]at hcond
   have es:=Shape.aL _ _ hcond.1
   have hps:∀ p∈ps,p:=λp hp=>hob p (by(repeat' split at hr)<;>(cases hr;simp[hp]))
   have hVn:vx= .slice none 0 0:=by cases hV with |stat hV=>cases hV;rfl
   have go:=λ(hh:(m:Int)*tl.bytes<=140737488355328/\m<=9223372036854775807)=>zdr (ty:=o.type) hT htl hu es (World.ownsRow_nil w 0 el su.size) (hs hps) (by omega) (by rw[xw];exact hh.1) (xt _)
   split at hr
   . cases hr
     obtain⟨v',w',news,hrun,h4,h5,h6,h7⟩:=go (hob _ (by simp))
     rw[<- hVn,hvx]at hrun
     rw[xw,List.nil_append]at h4
     exact finNew hrun h4 h5 h6 h7 hst rfl
   . split at hr
     . cases hr
       obtain⟨v',w',news,hrun,h4,h5,h6,h7⟩:=go (hob _ (by simp))
       rw[<- hVn,hvx]at hrun
       rw[xw,List.nil_append]at h4
       exact finLay hrun h4 h5 h6 h7 hst rfl
     . cases hr
       obtain rfl:m=0:=hob _ (by simp)
       obtain⟨A,c2,hUv,_⟩:=hs hps
       obtain⟨dd,ie,z,hue,hie,hse,hbe,hz,hzs,_,hzr⟩:=Tl.info
       have hrun:(Builtin.append_ #[t,t] o.type #[a.eval x,a.eval y]).run C.P w= .ok (.slice none 0 0) w:=by
        rw[<- hvx,hVn,hUv]
        cases A<;>simp[Builtin.append_,run_underlying hu,sizeOf,typeInfo,hie,Builtin.lenOf,Builtin.firstCells,loadCells,loadCellsFrom]
       simp only[zx,xq]at hst
       subst hst
       exact fin hrun (hn _ w F φ h λ_=> .stat .ax)
 . -- full
   rename_i sh n f hcond
   simp only[xa]at hcond
   have es:=Shape.aL _ _ hcond.1
   split at hr
   case h_2=>cases hr
   rename_i hsame
   have es2:=Shape.aL _ _ hsame
   subst es2
   obtain⟨o0,o1,o2⟩:0<m/\((n+m:Nat):Int)*tl.bytes<=140737488355328/\n+m<=9223372036854775807:=hob _ (by split at hr<;>(cases hr;simp))
   have hps:∀ p∈ps,p:=λp hp=>hob p (by split at hr<;>(cases hr;simp[hp]))
   obtain⟨dd,ie,z,hue,hie,hse,hbe,hz,hzs,_,hzr⟩:=Tl.info
   have hpos:=Tl.pos
   obtain⟨A2,c2,news,hUv,hl2,hA2,hn2,h12⟩:=zb4 (hs hps) (by rw[es];exact hpos)
   obtain⟨ad,rfl,hc2⟩:=hA2 o0
   obtain⟨A1,c1,olds,hVv,hl1,hA1,hn1,h11⟩:=zb4 (Za (.inr hV)) (by rw[es];exact hpos)
   have hcap:c1=n:=by
    rw[hVv]at hV
    cases hV with
    |stat hV=>cases hV<;>rfl
   subst hcap
   have hb2:(c1+m)*tl.bytes<=140737488355328:=by
    have :(((c1+m)*tl.bytes:Nat):Int)<=140737488355328:=by rw[Int.natCast_mul];exact o1
    omega
   have hge:=grownCap_ge w (c1+m) c1 el
   have hcm:grownCap w (c1+m) c1 el<=maxLen:=grownCap_le_maxLen w (c1+m) c1 el (by unfold maxLen;omega)
   have hsz1:ie.size=sh.size:=by rw[hse,es]
   have done:(Builtin.append_ #[t,t] o.type #[a.eval x,a.eval y]).run C.P w= .ok (.slice (some ⟨w.heap.size,0,none⟩) (c1+m) (grownCap w (c1+m) c1 el)) (w.drew.alloc (.cells (olds.toArray++news.toArray++Builtin.zeroCells z.cells (grownCap w (c1+m) c1 el - (c1+m))) el)):=by
    have ex2:a.eval x= .slice A1 c1 c1:=hvx.symm.trans hVv
    rw[hUv,ex2]
    cases A1 with
    |some b1=>
     refine run_append_grow (P:=C.P) w t o.type el ie z hu hie hz b1 c1 c1 olds (by rw[hl1,hsz1]) (λj u hj=>?_) ad m c2 news (by rw[hl2,hsz1]) hc2 (by omega) (by omega) (growslice_fits (by omega) (by rw[hbe];exact hb2))
     rcases wi c1 with h0 |h0
     . subst h0
       have :olds=[]:=xz (by simpa using hl1)
       subst this;simp at hj
     . obtain⟨ad1,e1,hc1⟩:=hA1 h0
       cases e1
       exact hc1 j u hj
    |none=>
     have h0:c1=0:=by
      rcases wi c1 with h0 |h0
      . exact h0
      . obtain⟨ad1,e1,_⟩:=hA1 h0;cases e1
     subst h0
     have h0:olds=[]:=xz (by simpa using hl1)
     subst h0
     have hb3:m*ie.bytes<=281474976710656:=by rw[hbe];have h9:=hb2;rw[xw]at h9;exact yd h9 (by decide)
     have hm3:(m:Int)<=9223372036854775807:=by rw[xw]at o2;exact Int.ofNat_le.2 o2
     have :=run_append_nil (P:=C.P) w t o.type el ie z hu hie hz ad m c2 news (by rw[hl2,hsz1]) hc2 o0 hm3 hb3
     simpa using this
   have gr:w.grownBy (w.drew.alloc (.cells (olds.toArray++news.toArray++Builtin.zeroCells z.cells (grownCap w (c1+m) c1 el - (c1+m))) el)) none:=⟨rfl,rfl,rfl,by simp,λk hk _=>Below.heap_alloc w.drew _ k hk⟩
   have els:=zaj hl1 hn1 hn2
   have own1:(w.drew.alloc (.cells (olds.toArray++news.toArray++Builtin.zeroCells z.cells (grownCap w (c1+m) c1 el - (c1+m))) el)).ownsRow 0 el sh.size (.slice (some ⟨w.heap.size,0,none⟩) (c1+m) (grownCap w (c1+m) c1 el)) (c1+m) (olds++news):=by
    refine⟨by rw[xl,hl1,hl2,y7], .inr ⟨w.heap.size,_,_,rfl,xt _,heap_alloc_new w.drew _,hge,hcm, ?_, ?_⟩⟩
    . simp only[Array.size_append,List.size_toArray,size_zeroCells,hzs,hl1,hl2,<- es,<- y7]
      congr 1
      omega
    . simp only[jc,wq]
      have :(c1+m)*sh.size=(olds++news).length:=by rw[xl,hl1,hl2,y7]
      rw[<- wq,this]
      exact List.take_left
   split at hr
   . cases hr;exact finNew done own1 gr (.inr rfl) els hst rfl
   . cases hr;exact finLay done own1 gr (.inr rfl) els hst rfl
 . -- the call's own
   rename_i b n hcond
   simp only[xa]at hcond
   have es:=Shape.aL _ _ hcond.1
   split at hr
   case h_2=>cases hr
   rename_i ty sh n' f hb
   split at hr
   case h_2=>cases hr
   rename_i hcnd
   simp only[xa]at hcnd
   obtain⟨⟨k1,k2⟩,k4⟩:=hcnd
   have e1:=xc k1
   have es2:=Shape.aL _ _ k2
   subst e1 es2
   cases hr
   obtain⟨o0,o1,o2⟩:n=n'/\((n+m:Nat):Int)*tl.bytes<=140737488355328/\n+m<=9223372036854775807:=hob _ (by simp)
   subst o0
   obtain⟨xs,hown,hob1,hxs⟩:=zml (h.heap b _ hb) hV rfl
   obtain⟨v',w',news,hrun,h4,h5,h6,h7⟩:=zdr (ty:=o.type) hT htl hu es hown (hs λp hp=>hob p (by simp[hp])) o2 o1 (xt _)
   rw[hvx]at hrun
   refine fin hrun ?_
   simp only[zx,xq]at hst
   subst hst
   have hFn:∀ k,v'.ownBlock=some k ->¬ F k:=by
    intro k hk hF
    rcases h6 with h6 |h6
    . rw[h6]at hk;exact((h.heap b _ hb).lt (hob1 k hk)).2.1 hF
    . rw[h6]at hk;cases hk;have :=h.ro _ hF;omega
   have hkeep:∀ k,F k ->w'.heap[k]? =w.heap[k]? :=λk hk=>h5.block k (h.ro k hk) λe=>((h.heap b _ hb).lt (hob1 k e.symm)).2.1 hk
   obtain⟨pl,p1,p2,p3,p4⟩:=z5h (F:=F) (B:=W0.B) (base:=0) (b:=b) (f:=λi=>if i<n then f i else g (i - n)) h4 (λk hk=>by
    rcases h6 with h6 |h6
    . rw[h6]at hk;exact((h.heap b _ hb).lt (hob1 k hk)).2.2
    . rw[h6]at hk;cases hk;exact h.nP (xm _)) hFn (λi hi j hj=>by
    obtain⟨uu,hu1,hu2⟩:=zaj hown.1 hxs h7 i hi j hj
    exact⟨uu,hu1,hu2.keep hkeep λ_ hk=>hk⟩)
   obtain⟨B1,B2⟩:=p4 (λk=>if k=b then pl else φ k) (by simp)
   refine hn v' w' F _ (h.uL hb h5 rfl (λgg hg=>hob1 gg hg) pl (λgg hg=>?_) B1) λ_=>B2
   rw[p1]at hg
   rcases h6 with h6 |h6
   . rw[h6]at hg;exact .inl (hob1 gg hg)
   . rw[h6]at hg;cases hg;exact .inr (xm _)
 . cases hr
end
section
variable {C:bu} {W0:Entry} {F0:Nat ->Prop} {st st':St} {a:Act} {w:World} {F:Nat ->Prop} {φ:Nat ->Place} {e:Operand ->Option AV} {dst:Option Nat} {b9:FuncId ->List AV ->Option AV} {CC:FuncId ->List AV ->AV ->Prop} {r:iT} {o:Oper}
 {next:Act ->World ->Prop} {Q:Exit ->Act ->World ->Prop}
theorem zk5 {c:Call} {x y:Operand} {t t':TypeId} {te:cN} {b o0 n:Nat} {u:AV} {el:TypeId} {tl:cN} {ty:TypeId} {sh:Shape} {n':Nat} {f f':Nat ->AV} {su:Shape} {m:Nat} {g:Nat ->AV}
 (h:Rel C W0 F0 st a w F φ) (hT:gn C) (ho:o.op= .call c) (hc:c.callee= .builtin .copy) (hargs:c.args.toList=[x,y]) (htys:c.argTypes.toList=[t,t']) (h1:aU C t=some te) (hkind:te.kind= .slice el) (htl:aU C el=some tl)
 (hb:get st.heap b=some (.row ty sh n' f)) (hsrc:(match u with | .seq su m g | .bD su m g=>some (su,m,g) | .ax=>some (tl.sh,0,λ_=>AV.any) |_=>none:Option (Shape×Nat×(Nat ->AV)))=some (su,m,g))
 (es:su=tl.sh) (es2:sh=tl.sh) (hU:aG w F φ (a.eval y) u) (o2:(n:Int)<=9223372036854775807)
 (hV:(∃ gb p cap0,(φ b).bV=some gb/\o0+n<=(φ b).cap/\(p=o0*(φ b).sh.size∨n=0/\p=0)/\a.eval x= .slice (some ⟨gb,p,none⟩) n cap0)∨((φ b).bV=none/\n=0/\a.eval x= .slice none 0 0))
 (hf:∀ i,f' i=if o0<=i/\i<o0+min m n then g (i - o0)else f i)
 (hn:Next C W0 F0 {st with heap:=put st.heap b (.row ty sh n' f')} a o (.int .i64 ((min m n:Nat):Int)) next):o.wp C.P a w next Q:=by
 have ea:c.args=#[x,y]:=by rw[<- g7 (xs:=c.args),hargs]
 have et:c.argTypes=#[t,t']:=by rw[<- g7 (xs:=c.argTypes),htys]
 have T:=hT _ _ h1
 have Tl:=hT _ _ htl
 have hu:=RD T hkind
 have hs:PB w F (a.eval y) su m g:=by
  cases u<;>simp only[xq,yn,reduceCtorEq]at hsrc
  . obtain⟨rfl,rfl,rfl⟩:=hsrc;exact zk4 hU
  . obtain⟨rfl,rfl,rfl⟩:=hsrc;exact Za (.inl hU)
  . obtain⟨rfl,rfl,rfl⟩:=hsrc;exact Za (.inr hU)
 have hpos:=Tl.pos
 obtain⟨A,cp,news,hUv,hl,hA,hnw,hone⟩:=zb4 hs (by rw[es];exact hpos)
 have hin:aM .i64 ((min m n:Nat):Int):=zes (by omega)
 have fin:∀ {w':World},(Builtin.copy_ #[t,t'] o.type #[a.eval x,a.eval y]).run C.P w= .ok (.int .i64 ((min m n:Nat):Int)) w' ->Rel C W0 F0 {st with heap:=put st.heap b (.row ty sh n' f')} a w' F φ ->o.wp C.P a w next Q:=by
  intro w' hrun hR
  unfold Oper.wp
  have :(execOp a.eval o).run C.P w= .ok (.value (.int .i64 ((min m n:Nat):Int))) w':=by
   refine UU ho hc ?_
   rw[ea,et]
   simp only[builtin,Sem.run_bind]
   have :(#[x,y].map a.eval)=#[a.eval x,a.eval y]:=by simp
   rw[this,hrun]
   rfl
  rw[this]
  exact hn _ w' F φ hR λ_=> .stat (.int _ _ hin)
 have hsz2:(sizeOf el).run C.P w= .ok tl.sh.size w:=Tl.size
 obtain⟨hsh,hty,hrow⟩:=h.heap b _ hb
 -- the cells that are read
 have hfc:(Builtin.firstCells tl.sh.size (min m n) (a.eval y)).run C.P w= .ok ((news.take (min m n*tl.sh.size)).toArray) w:=by
  rw[hUv]
  cases A with
  |none=>
   have h0:m=0:=by
    rcases wi m with h0 |h0
    . exact h0
    . obtain⟨ad,e,_⟩:=hA h0;cases e
   subst h0
   have :news=[]:=xz (by simpa using hl)
   subst this
   simp[Builtin.firstCells]
  |some ad=>
   have hlen:(news.take (min m n*tl.sh.size)).length=min m n*tl.sh.size:=by
    have :min m n*tl.sh.size<=m*tl.sh.size:=xn _ (Nat.min_le_left _ _)
    rw[xr,hl,es];omega
   simp only[Builtin.firstCells]
   have hrl:=run_loadCells_list (P:=C.P) w ad (news.take (min m n*tl.sh.size)) λj v hj=>by
    rcases wi m with h0 |h0
    . subst h0
      have :news=[]:=xz (by simpa using hl)
      subst this;simp at hj
    . obtain⟨ad',e,hcs⟩:=hA h0
      cases e
      rw[List.getElem?_take]at hj
      split at hj
      . exact hcs j v hj
      . cases hj
   rw[hlen]at hrl
   exact hrl
 have key:∀ {base:Option Addr} {cap:Nat},a.eval x= .slice base n cap ->(Builtin.copy_ #[t,t'] o.type #[a.eval x,a.eval y]).run C.P w=
  ((match base with |some ad=>storeCells ad (news.take (min m n*tl.sh.size)) |none=>pure ()).run C.P w).andThen λ_ w'=> .ok (.int .i64 ((min m n:Nat):Int)) w':=by
  intro base cap hv
  have hU2:=hUv
  rw[hv]
  simp only[Builtin.copy_,List.getElem?_toArray,List.getElem?_cons_zero,List.getElem?_cons_succ,Sem.run_bind,run_underlying hu,Result.andThen_ok]
  have hlo:(Builtin.lenOf (a.eval y)).run C.P w= .ok m w:=by rw[hUv];rfl
  rw[hlo]
  simp only[Result.andThen_ok]
  have :Nat.min m n=min m n:=rfl
  rw[this,hsz2]
  simp only[Result.andThen_ok]
  rw[hfc]
  simp only[Result.andThen_ok]
  cases base<;>simp[goInt]
 rcases hV with⟨gb,p0,cap0,hg,hnc,hp0,hv⟩ | ⟨hg,h0,hv⟩
 . rcases hrow with⟨h4,_⟩ | ⟨g',cs,hg',hbase,hnF,hh,hsz,hncap,hmax,hrep⟩
   . rw[hg]at h4;cases h4
   obtain rfl:g'=gb:=by rw[hg]at hg';injection hg' with e;exact e.symm
   have hlen:(news.take (min m n*tl.sh.size)).length=min m n*tl.sh.size:=by
    have :min m n*tl.sh.size<=m*tl.sh.size:=xn _ (Nat.min_le_left _ _)
    rw[xr,hl,es];omega
   have hle:p0+min m n*tl.sh.size<=cs.size/\(p0=o0*tl.sh.size∨min m n*tl.sh.size=0):=by
    rw[hsz,es2]
    rcases hp0 with e | ⟨e,e'⟩
    . rw[hsh,es2]at e
      have h9:(o0+min m n)*tl.sh.size<=(φ b).cap*tl.sh.size:=xn _ (yd (Nat.add_le_add_left (Nat.min_le_right m n) o0) hnc)
      rw[y7]at h9
      exact⟨by omega, .inl e⟩
    . subst e e';simp
   have hsc:=run_storeCells_at (P:=C.P) g' p0 ty (news.take (min m n*tl.sh.size)) 0 cs w hh (by rw[hlen];omega) (λv hv=>hone v (List.mem_of_mem_take hv))
   rw[wd,hlen]at hsc
   refine fin (w':=w.setRow g' (cs.toList.take p0++news.take (min m n*tl.sh.size)++cs.toList.drop (p0+min m n*tl.sh.size)).toArray) ?_ ?_
   . rw[key hv,hsc]
     rfl
   . have hna:((news.take (min m n*tl.sh.size)).toArray).size=min m n*tl.sh.size:=by simpa using hlen
     have hsp:(cs.toList.take p0++news.take (min m n*tl.sh.size)++cs.toList.drop (p0+min m n*tl.sh.size))=(cs.toList.take p0++(news.take (min m n*tl.sh.size)).toArray.toList++cs.toList.drop (p0+min m n*tl.sh.size)):=by simp
     rw[hsp]
     refine h.mP hb hg rfl rfl rfl (by simp) (λk hk=>pC hk) rfl ⟨hsh,hty, .inr ⟨g',_,hg,hbase,hnF,setRow_heap w g' cs _ _ _ hh,by rw[z68 hna (by omega)];exact hsz,hncap,hmax,λi hi j hj=>?_⟩⟩
     rw[z7m hna (by omega)]
     refine au.keep (w:=w) (F:=F) ?_ (λk hk=>pC λe=>hnF (e ▸ hk)) (λ_ hk=>hk)
     by_cases hik:o0<=i/\i<o0+min m n
     . have hmul:(i - o0+1)*tl.sh.size<=min m n*tl.sh.size:=xn _ (by omega)
       have hio:i*tl.sh.size=o0*tl.sh.size+(i - o0)*tl.sh.size:=by rw[<- y7];congr 1;omega
       rw[y7]at hmul
       rw[es2]at hj ⊢
       have hp1:p0=o0*tl.sh.size:=hle.2.resolve_right (by omega)
       rw[x9 (by omega),hf i,x9 hik,show i*tl.sh.size+j - p0=(i - o0)*tl.sh.size+j from by omega]
       obtain⟨uu,hu1,hu2⟩:=hnw (i - o0) (by omega) j (by rw[es];exact hj)
       rw[es]at hu1 hu2
       rw[xb,List.getElem?_toArray,y5 (by omega),hu1]
       exact hu2
     . have hout:¬ (p0<=i*sh.size+j/\i*sh.size+j<p0+min m n*tl.sh.size):=by
        rw[es2]at hj ⊢
        rcases hle.2 with e |e
        . rcases Nat.lt_or_ge i o0 with h8 |h8
          . have :=xn tl.sh.size (show i+1<=o0 from h8)
            rw[y7]at this;omega
          . have :=xn tl.sh.size (show o0+min m n<=i by omega)
            rw[y7]at this;omega
        . omega
       rw[x8 hout,hf i,x8 hik]
       exact hrep i hi j hj
 . subst h0
   refine fin (w':=w) ?_ ?_
   . rw[key hv];rfl
   . refine⟨h.env,λb' c1 hc1=>?_, ?_,h.ro,h.base,h.sub,h.new,h.eR,h.iC,h.aoi,λb' p hp=>?_⟩
     . by_cases e:b'=b
       . subst e
         rw[zv]at hc1
         cases hc1
         refine⟨hsh,hty, ?_⟩
         rcases hrow with h4 | ⟨g',cs,hg',_⟩
         . exact .inl h4
         . rw[hg]at hg';cases hg'
       . rw[zb _ _ _ _ e]at hc1
         exact h.heap b' c1 hc1
     . intro b1 b2 c1 c2 g2 k1 k2 k3 k4
       have i1:∃ c1',get st.heap b1=some c1':=by
        by_cases e:b1=b
        . exact⟨_,e ▸ hb⟩
        . rw[zb _ _ _ _ e]at k1;exact⟨c1,k1⟩
       have i2:∃ c2',get st.heap b2=some c2':=by
        by_cases e:b2=b
        . exact⟨_,e ▸ hb⟩
        . rw[zb _ _ _ _ e]at k2;exact⟨c2,k2⟩
       obtain⟨c1',i1⟩:=i1
       obtain⟨c2',i2⟩:=i2
       exact h.inj b1 b2 c1' c2' g2 i1 i2 k3 k4
     . obtain⟨a1,a2,a3⟩:=h.gV b' p hp
       refine⟨a1,a2,λc1 hc1=>?_⟩
       by_cases e:b'=b
       . subst e;exact absurd (a3 _ hb) (by simp[ar.isRow])
       . rw[zb _ _ _ _ e]at hc1;exact a3 c1 hc1
theorem zzo {c:Call} (h:Rel C W0 F0 st a w F φ) (hT:gn C) (ho:o.op= .call c) (hc:c.callee= .builtin .copy) (hr:zl C st e o.dst b9 CC (.call c)=some r)
 (hx:∀ x∈c.args.toList,∀ u,e x=some u ->aG w F φ (a.eval x) u) (hob:∀ p∈r.iD,p) (hst:zx st o.dst r.gP=some st') (hn:Next C W0 F0 st' a o r.val next):o.wp C.P a w next Q:=by
 simp only[zl,hc]at hr
 split at hr
 case h_2=>cases hr
 rename_i x y t t' hargs htys
 split at hr
 case h_3=>cases hr
 all_goals
  rename_i h1 h1' h2 h3
  split at hr
  case h_2=>cases hr
  rename_i el el' hkind hkind'
  split at hr
  case h_2=>cases hr
  rename_i tl ty sh n' f htl heq hb
  split at hr
  case h_2=>cases hr
  rename_i su m g hsrc
  split at hr
  case h_2=>cases hr
  rename_i hcond
  simp only[xa]at hcond
  have es:=Shape.aL _ _ hcond.1
  have es2:=Shape.aL _ _ hcond.2
  cases hr
  have hV:=hx x (by rw[hargs];simp) _ h2
  have hU:=hx y (by rw[hargs];simp) _ h3
  simp only[zx,xq]at hst
  subst hst
  have hob':=hob _ (jt.2 rfl)
 . refine zk5 h hT ho hc hargs htys h1 hkind htl hb hsrc es es2 hU hob'.2 (o0:=0) ?_ (λi=>?_) hn
   . rcases hV.dw with⟨gb,hg,hv,hnc⟩ | ⟨hg,h0,hv⟩
     . grind
     . exact .inr ⟨hg,h0,hv⟩
   . grind
 . refine zk5 h hT ho hc hargs htys h1 hkind htl hb hsrc es es2 hU hob'.2 ?_ (λi=>rfl) hn
   rcases hV.ij with⟨gb,p,hg,hnc,_,hp,hv⟩ | ⟨hg,_,h0,hv⟩
   . exact .inl ⟨gb,p,_,hg,hnc,hp,hv⟩
   . exact .inr ⟨hg,h0,hv⟩
end
end Go.AV
namespace Go.AV
open Go.RowKit
theorem zzp (n:Nat ->Nat) (x:AV):(x.sub n).b8=x.b8:=by cases x<;>rfl
theorem zmm (n:Nat ->Nat) (x:AV):eC (x.sub n)=(eC x).sub n:=by
 unfold eC
 rw[zzp]
 split<;>rfl
theorem znh {x:AV} (h:x.b8=true):x.dm=true:=by cases x<;>first |rfl | (simp[AV.b8]at h)
mutual
theorem ZZ:∀ (sh:Shape) (x:AV) (j:Nat),(z6 sh x j).dm=true
 | .leaf,x,j=>by
  simp[z6,eC]
  split
  . rename_i h;exact znh h
  . rfl
 | .agg ss,x,j=>by
  cases x with
  |agg xs=>simp[z6];exact z8x ss xs j
  |_=>rfl
 | .arr n s,x,j=>by cases x<;>rfl
theorem z8x:∀ (ss:List Shape) (xs:List AV) (j:Nat),(zh ss xs j).dm=true
 |s::ss,x::xs,j=>by
  simp[zh]
  split
  . exact ZZ s x j
  . exact z8x ss xs _
 | [],_,_=>rfl
 |_::_,[],_=>rfl
end
mutual
theorem z50 (n:Nat ->Nat):∀ (sh:Shape) (x:AV) (j:Nat),z6 sh (x.sub n) j=(z6 sh x j).sub n
 | .leaf,x,j=>by simp only[z6];exact zmm n x
 | .agg ss,x,j=>by
  cases x with
  |agg xs=>simp[AV.sub];exact zbw n ss xs j
  |_=>rfl
 | .arr m s,x,j=>by cases x<;>rfl
theorem zbw (n:Nat ->Nat):∀ (ss:List Shape) (xs:List AV) (j:Nat),zh ss (AV.kJ n xs) j=(zh ss xs j).sub n
 |s::ss,x::xs,j=>by
  simp[zh,AV.kJ]
  split
  . exact z50 n s x j
  . exact zbw n ss xs _
 | [],xs,j=>by cases xs<;>rfl
 |_::_,[],_=>rfl
end
mutual
theorem z3w (m:Nat ->Bool):∀ (sh:Shape) (x:AV) (j:Nat),x.eh m=true ->(z6 sh x j).eh m=true
 | .leaf,x,j,h=>by
  simp[z6,eC]
  split
  . exact h
  . rfl
 | .agg ss,x,j,h=>by
  cases x with
  |agg xs=>simp[z6];exact z8y m ss xs j (by simpa [AV.eh]using h)
  |_=>rfl
 | .arr n s,x,j,h=>by cases x<;>rfl
theorem z8y (m:Nat ->Bool):∀ (ss:List Shape) (xs:List AV) (j:Nat),AV.fG m xs=true ->(zh ss xs j).eh m=true
 |s::ss,x::xs,j,h=>by
  simp[zh]
  simp[AV.fG]at h
  split
  . exact z3w m s x j h.1
  . exact z8y m ss xs _ h.2
 | [],_,_,_=>rfl
 |_::_,[],_,_=>rfl
end
section
variable {w:World} {F:Nat ->Prop} {φ φ2:Nat ->Place} {n:Nat ->Nat} {m:Nat ->Bool}
theorem zb5 (hφ:∀ b,m b=true ->φ2 (n b)=φ b) {v:Value} {y:AV} (hl:y.dm=true) (h0:y.eh m=true) (h:aG w F φ v y):aG w F φ2 v (y.sub n):=by
 cases h with
 |stat h=>cases h<;>first | (simp[AV.dm]at hl;done) |exact .stat (by constructor<;>assumption) |skip
 |st h=>exact .st h
 |own b g k hb hn=>
  rw[<- hφ b h0]at hb hn ⊢
  exact .own (n b) g k hb hn
 |gX b hb=>
  rw[<- hφ b h0]at hb
  exact .gX (n b) hb
 |ptr b g p hb hp=>
  rw[<- hφ b h0]at hb hp ⊢
  exact .ptr (n b) g p hb hp
 |bq b g i p hb hp=>
  rw[<- hφ b h0]at hb hp ⊢
  exact .bq (n b) g i p hb hp
 |bJ b g o p k c hb hn hc hp=>
  rw[<- hφ b h0]at hb hn hc hp ⊢
  exact .bJ (n b) g o p k c hb hn hc hp
 |iW b c hb=>
  rw[<- hφ b h0]at hb
  exact .iW (n b) c hb
 |c8 f caps l hs hc=>exact .stat (aG.kt (.c8 f caps l hs hc) h0)
 |mc=>simp[AV.dm]at hl
 |av=>simp[AV.dm]at hl
 |eZ=>simp[AV.dm]at hl
theorem zi9 (hφ:∀ b,m b=true ->φ2 (n b)=φ b) {v:Value} {y:AV} (hl:y.dm=true∨∃ sh x,y= .mc sh x) (h0:y.eh m=true) (h:aG w F φ v y):aG w F φ2 v (y.sub n):=by
 rcases hl with hl | ⟨sh,x,rfl⟩
 . grind[zb5]
 . simp[AV.eh]at h0
   cases h with
   |stat h=>
    cases h with
    |mc cs _ _ hs hr=>exact .mc cs sh _ hs λj hj=>by rw[z50];exact zb5 hφ (ZZ sh x j) (z3w m sh x j h0) (.stat (hr j hj))
   |mc cs _ _ hs hr=>exact .mc cs sh _ hs λj hj=>by rw[z50];exact zb5 hφ (ZZ sh x j) (z3w m sh x j h0) (hr j hj)
theorem zet (hφ:∀ b,m b=true ->φ2 (n b)=φ b) {v:Value} {y:AV} (hl:y.dm=true) (h0:y.eh m=true) (h:aG w F φ2 v (y.sub n)):aG w F φ v y:=by
 cases y with
 |own b k=>
  cases h with
  |stat h=>cases h
  |own _ g _ hb hn=>rw[hφ b h0]at hb hn ⊢;exact .own b g k hb hn
  |gX _ hb=>rw[hφ b h0]at hb;exact .gX b hb
 |ptr b p=>
  cases h with
  |stat h=>cases h
  |ptr _ g _ hb hp=>rw[hφ b h0]at hb hp ⊢;exact .ptr b g p hb hp
 |bq b i p=>
  cases h with
  |stat h=>cases h
  |bq _ g _ _ hb hp=>rw[hφ b h0]at hb hp ⊢;exact .bq b g i p hb hp
 |bJ b o k c=>
  cases h with
  |stat h=>cases h
  |bJ _ g _ p _ _ hb hn hc hp=>rw[hφ b h0]at hb hn hc hp ⊢;exact .bJ b g o p k c hb hn hc hp
  |iW _ _ hb=>rw[hφ b h0]at hb;exact .iW b c hb
 |c8 f l=>exact .stat (h.kt h0)
 |agg=>simp[AV.dm]at hl
 |arr=>simp[AV.dm]at hl
 |mc=>simp[AV.dm]at hl
 |av=>simp[AV.dm]at hl
 | «when» =>simp[AV.dm]at hl
 |_=>exact .stat (h.kt rfl)
theorem zni (hφ:∀ b,m b=true ->φ2 (n b)=φ b) {v:Value} {y:AV} (hl:y.dm=true∨∃ sh x,y= .mc sh x) (h0:y.eh m=true) (h:aG w F φ2 v (y.sub n)):aG w F φ v y:=by
 rcases hl with hl | ⟨sh,x,rfl⟩
 . grind[zet]
 . simp[AV.eh]at h0
   cases h with
   |stat h=>
    cases h with
    |mc cs _ _ hs hr=>
     refine .mc cs sh _ hs λj hj=>?_
     have :=hr j hj
     rw[z50]at this
     exact zet hφ (ZZ sh x j) (z3w m sh x j h0) (.stat this)
   |mc cs _ _ hs hr=>
    refine .mc cs sh _ hs λj hj=>?_
    have :=hr j hj
    rw[z50]at this
    exact zet hφ (ZZ sh x j) (z3w m sh x j h0) this
theorem z8z {y:AV} (h:zsg y=true):y.dm=true∨∃ sh x,y= .mc sh x:=by
 cases y<;>first |exact .inl h |exact .inr ⟨_,_,rfl⟩
theorem z5i:∀ {l:List AV} {j:Nat},z9x l=true ->j<l.length ->zsg (l.getD j .any)=true
 |x::l,0,h,_=>by simp only[z9x,xa]at h;simpa using h.1
 |x::l,j+1,h,hj=>by simp[z9x]at h;simpa using z5i h.2 (by simpa using hj)
 | [],_,_,hj=>by simp at hj
theorem z69 {m:Nat ->Bool}:∀ {l:List AV} {j:Nat},AV.fG m l=true ->j<l.length ->(l.getD j .any).eh m=true
 |x::l,0,h,_=>by simp only[AV.fG,xa]at h;simpa using h.1
 |x::l,j+1,h,hj=>by simp[AV.fG]at h;simpa using z69 h.2 (by simpa using hj)
 | [],_,_,hj=>by simp at hj
theorem z90 (n:Nat ->Nat):∀ (l:List AV) (j:Nat),j<l.length ->(AV.kJ n l).getD j .any=(l.getD j .any).sub n
 |x::l,0,_=>rfl
 |x::l,j+1,hj=>by simpa [AV.kJ]using z90 n l j (by simpa using hj)
 | [],_,hj=>by simp at hj
theorem z7p (n:Nat ->Nat):∀ l:List AV,(AV.kJ n l).length=l.length
 | []=>rfl
 |x::l=>by simp[AV.kJ,z7p n l]
theorem zia (hφ:∀ b,m b=true ->φ2 (n b)=φ b) {v:Value} {y:AV} (hg:tC m y=true) (h:aG w F φ v y):aG w F φ2 v (y.sub n):=by
 cases y with
 |av l=>
  simp[tC]at hg
  cases h with
  |stat h=>cases h
  |av vs _ hs hc=>
   refine .av vs _ (by rw[z7p];exact hs) λj hj=>?_
   rw[z7p]at hj
   rw[z90 n l j hj]
   exact zi9 hφ (z8z (z5i hg.1 hj)) (z69 hg.2 hj) (hc j hj)
 |_=>
  grind[tC,zi9,z8z]
theorem zzq (hφ:∀ b,m b=true ->φ2 (n b)=φ b) {v:Value} {y:AV} (hg:tC m y=true) (h:aG w F φ2 v (y.sub n)):aG w F φ v y:=by
 cases y with
 |av l=>
  simp[tC]at hg
  cases h with
  |stat h=>cases h
  |av vs _ hs hc=>
   rw[z7p]at hs hc
   refine .av vs _ hs λj hj=>?_
   have :=hc j hj
   rw[z90 n l j hj]at this
   exact zni hφ (z8z (z5i hg.1 hj)) (z69 hg.2 hj) this
 |_=>
  grind[tC,zni,z8z]
end
def K6 (P:Program) (G:List (Nat×AV)) (f:FuncId) (args:List AV) (r:AV) (cs:List ar):Prop:=
 ∀ (w:World) (F:Nat ->Prop) (vs:Array Value),(∀ k,F k ->k<w.heap.size) ->(∀ g x,get G g=some x ->au w F (.pointer (some ⟨g,0,none⟩)) x) ->vs.size=args.length ->
  (∀ j,j<args.length ->au w F (vs.getD j undef) (args.getD j .any)) ->
  Calls P f vs w λen w'=>∃ v F' φ',en= .returned v/\Below w.heap.size w w'/\(∀ k,F k ->F' k)/\(∀ k,F' k ->F k∨w.heap.size<=k)/\(∀ k,F' k ->k<w'.heap.size)/\aG w' F' φ' v r/\
   (∀ i c,cs[i]? =some c ->z24 w' F' φ' (λk=>w.heap.size<=k) i c)/\∀ i i' g,i<cs.length ->i'<cs.length ->(φ' i).bV=some g ->(φ' i').bV=some g ->i=i'
section
variable {w:World} {F:Nat ->Prop} {φ φ2:Nat ->Place} {n:Nat ->Nat} {m:Nat ->Bool} {B:Nat ->Prop}
end
section
variable {C:bu} {W0:Entry} {F0:Nat ->Prop} {st st':St} {a:Act} {w:World} {F:Nat ->Prop} {φ:Nat ->Place} {CC:FuncId ->List AV ->AV ->Prop} {o:Oper} {b9:FuncId ->List AV ->Option AV}
 {e:Operand ->Option AV} {next:Act ->World ->Prop} {r:iT} {Q:Exit ->Act ->World ->Prop}
theorem z24.base {base base':Nat ->Prop} {b:Nat} {c:ar} (h:z24 w F φ base b c) (hb:∀ k,base k ->base' k):z24 w F φ base' b c:=by
 cases c with
 |cell tc sh x=>
  obtain⟨h0,g,cs,h1,h2,h3⟩:=h
  exact⟨h0,g,cs,h1,hb _ h2,h3⟩
 |row ty sh n f=>
  obtain⟨h0,h0',h⟩:=h
  refine⟨h0,h0', ?_⟩
  rcases h with h | ⟨g,cs,h1,h2,h3⟩
  . exact .inl h
  . grind
theorem Rel.pP (h:Rel C W0 F0 st a w F φ) {d:Nat} {c:ar} (hf:jL st d=true) (hc:c.names d=false) (pl:Place)
 (hB:z24 w F (λk=>if k=d then pl else φ k) W0.B d c) (hd:∀ g,pl.bV=some g ->∀ b c',get st.heap b=some c' ->(φ b).bV≠some g):
 Rel C W0 F0 {st with heap:=put st.heap d c} a w F (λk=>if k=d then pl else φ k):=by
 simp only[jL,xi,xg]at hf
 obtain⟨fe,fh,fl⟩:=hf
 refine⟨λs x hs=>?_,λb c' hc'=>?_, ?_,h.ro,h.base,h.sub,h.new,h.eR,h.iC,h.aoi,zi0 h.gV fl⟩
 . obtain⟨v,hv,hr⟩:=h.env s x hs
   refine⟨v,hv,hr.keep (λ_ _=>rfl) (λ_ hk=>hk) λb hb=>nT φ d pl λe=>?_⟩
   subst e
   rw[Tp hs fe]at hb;cases hb
 . by_cases e:b=d
   . subst e
     rw[zv]at hc'
     grind
   . rw[zb _ _ _ _ e]at hc'
     have hb:=h.heap b c' hc'
     refine hb.keep (λ_ _=>rfl) (λ_ hk=>hk) (λg hg=>⟨rfl,(hb.lt hg).2.1⟩) (nT φ d pl e) λb' hb'=>nT φ d pl λe=>?_
     subst e
     rw[(Og hc' fh).1]at hb';cases hb'
 . intro b b' c1 c2 g h1 h2 h3 h4
   by_cases e:b=d
   . by_cases e':b'=d
     . omega
     . rw[zb _ _ _ _ e']at h2
       grind
   . by_cases e':b'=d
     . rw[zb _ _ _ _ e]at h1
       grind
     . rw[zb _ _ _ _ e]at h1
       rw[zb _ _ _ _ e']at h2
       simp[e]at h3
       simp[e']at h4
       exact h.inj b b' c1 c2 g h1 h2 h3 h4
theorem zby {fx:Operand} {dst:Option Nat} {f d:Nat} (h:kx C fx dst=some (f,d)):fx= .func f/\dst=some d/\C.mU f d=true:=by
 unfold kx at h
 grind
theorem aek {c:Call} {fx:Operand} {f d:Nat} {as:List AV} (h:Rel C W0 F0 st a w F φ) (ho:o.op= .call c) (hc:c.callee= .value fx) (hk:kx C fx o.dst=some (f,d)) (ha:kz e c.args.toList=some as) (hr:zjy C f d as=some r)
 (hx:∀ x∈c.args.toList,∀ u,e x=some u ->aG w F φ (a.eval x) u) (hob:∀ p∈r.iD,p)
 (hCCF:∀ f as r cs,C.nU f as r cs ->jH C.P f/\K6 C.P C.G f as r cs)
 (hst:zx st o.dst r.gP=some st') (hn:Next C W0 F0 st' a o r.val next):o.wp C.P a w next Q:=by
 obtain⟨rfl,hd,_⟩:=zby hk
 unfold zjy at hr
 split at hr
 case h_2=>cases hr
 rename_i rv ty sh n g hmk
 split at hr
 case h_2=>cases hr
 rename_i hgd
 cases hr
 simp only[xa]at hgd
 obtain⟨hsta,hgood⟩:=hgd
 rw[hd]at hst
 simp only[zx]at hst
 split at hst
 case h_2=>cases hst
 rename_i hfr
 simp only[xa,xi]at hfr
 cases hst
 obtain⟨hok,hcall⟩:=hCCF f as rv [.row ty sh n g] (hob _ (by simp))
 obtain⟨n1,n2⟩:=z7o ha hx
 have hrun:(execOp a.eval o).run C.P w= .ok (.enter f (c.args.map a.eval)) w:=by
  obtain⟨callee,args',tys⟩:=c
  cases hc
  have hfv:a.eval (.func f)= .func (.func f) #[] #[]:=rfl
  simp only[execOp,ho,resolve,Sem.run_bind,hfv]
  simp only[Deferred.ofValue,Sem.run_pure,Result.andThen_ok,invoke,Array.empty_append,Array.append_empty]
  exact hok _ w
 unfold Oper.wp
 rw[hrun]
 show Calls C.P f _ w _
 refine(hcall w F _ h.ro h.aoi (by simpa using n1) λj hj=>?_).mono ?_
 . have :=n2 j hj
   have h5:aG w F φ ((c.args.map a.eval).getD j undef) (as.getD j .any):=by simp_all
   exact h5.kt (ue hsta j)
 . rintro en w' ⟨v,F',φ',rfl,hb,f1,f2,f3,hv,hbox,hinj⟩
   have hR:=h.grown hb f1 f2 f3
   have h0:=hbox 0 _ rfl
   have hB':z24 w' F' (λk=>if k=d then φ' 0 else φ k) W0.B d (.row ty sh n g):=by
    obtain⟨b1,b2,b3⟩:=h0.base (base':=W0.B) λk hk=>h.nP hk
    refine⟨by simpa using b1,by simpa using b2, ?_⟩
    simp only[wu]
    exact b3
   have h1:=hR.pP (d:=d) hfr.1 hfr.2 (φ' 0) hB' λg' hg b c' hc' hb'=>by
    have :=(h0.lt hg).2.2
    have :=((h.heap b c' hc').lt hb').1
    omega
   exact hn v w' F' _ h1 λ_=>zia (φ:=φ') (n:=λ_=>d) (λb hb=>by
    have hb0:b=0:=by
     have :=wo hb
     omega
    subst hb0
    simp) hgood hv
end
end Go.AV
