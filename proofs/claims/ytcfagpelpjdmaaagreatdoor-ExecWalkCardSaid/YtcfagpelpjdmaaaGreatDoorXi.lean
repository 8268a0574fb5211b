import Derived.Test.YtcfagpelpjdmaaaGreatDoorXh
import Derived.Test.YtcfagpelpjdmaaaGreatDoorProg
namespace Go.AV
open Go.RowKit
mutual
def la (ks:List Nat) (h:List (Nat×aw)):AV ->Option (AV×List Prop)
 | .own b n=>match rD b ks with
  |true=>some (.own b n,[])
  |false=>iy h (.own b n)
 | .ptr b p=>match rD b ks with
  |true=>some (.ptr b p,[])
  |false=>iy h (.ptr b p)
 | .bB b i p=>match rD b ks with
  |true=>some (.bB b i p,[])
  |false=>iy h (.bB b i p)
 | .agg l=>match Y2 ks h l with |some (m,e)=>some (.agg m,e) |none=>none
 | .mc sh x=>match la ks h x with |some (y,e)=>some (.mc sh y,e) |none=>none
 | .ax l=>match Y2 ks h l with |some (m,e)=>some (.ax m,e) |none=>none
 |x=>iy h x
def Y2 (ks:List Nat) (h:List (Nat×aw)):List AV ->Option (List AV×List Prop)
 | []=>some ([],[])
 |x::l=>match la ks h x,Y2 ks h l with
  |some (y,e),some (m,f)=>some (y::m,e++f)
  |_,_=>none
end
mutual
def vl:AV ->AV ->List (Nat×Nat)
 | .own b _, .own i _=>[(i,b)]
 | .agg l, .agg m=>znv l m
 | .ax l, .ax m=>znv l m
 | .mc _ x, .mc _ y=>vl x y
 |_,_=>[]
def znv:List AV ->List AV ->List (Nat×Nat)
 |x::l,y::m=>vl x y++znv l m
 |_,_=>[]
end
def bw (prs:List (Nat×Nat)) (i:Nat):Nat:=match get prs i with |some b=>b |none=>1048576+i
def nB (prs:List (Nat×Nat)):Nat ->List aw ->List (Nat×aw)
 |_,[]=>[]
 |i,c::cs=>(bw prs i,c)::nB prs (i+1) cs
def zcf:List aw ->Bool
 | []=>true
 |c::cs=>c.isRow&&zcf cs
def pz:List (Nat×aw) ->List Nat
 | []=>[]
 | (k,_)::l=>k::pz l
def zv3 (C:bt) (st:St) (rs:List ResultVar) (r:AV) (cs:List aw):Option (List Prop×St×St):=
 match AF C st rs with
 |some l=>match X1 (pz (nB (vl (po l) r) 0 cs))&&(Aq (below cs.length) r&&zcf cs),la (pz (nB (vl (po l) r) 0 cs)) (r7 (pz (nB (vl (po l) r) 0 cs)) st.heap) (po l)with
  |true,some (m,e)=>some (e,⟨[(0,m)],kk (pz (nB (vl (po l) r) 0 cs)) st.heap⟩,⟨[(0,r.sub (bw (vl (po l) r)))],nB (vl (po l) r) 0 cs⟩)
  |_,_=>none
 |none=>none
def zin (V:bj) (fn:Func) (r:AV) (cs:List aw) (e:Exit) (st:St):Prop:=
 match e with
 | .ret | .normal=>match zv3 V.C st fn.results.toList r cs with
  |some (h,f,s2)=>kv h (St.mv f s2)
  |none=>False
 |_=>False
def z6v (V:bj) (fn:Func) (args:List AV) (r:AV) (cs:List aw):Prop:=
 match fn.body with
 |some c=>vc V c ⟨z87 0 args,[]⟩ (zin V fn r cs)
 |none=>False
section
variable {C:bt} {W0:Entry} {F0:Nat ->Prop} {st st':St} {a:Act} {w:World} {F:Nat ->Prop} {φ:Nat ->Place}
mutual
theorem zf7 {ks:List Nat} {st:St} (h:Rel C W0 F0 st a w F φ):∀ (x y:AV) (ps:List Prop),la ks st.heap x=some (y,ps) ->(∀ p∈ps,p) ->
 (∀ v,aO w F φ v x ->aO w (dH st F φ) φ v y)/\(∀ sh j v,aO w F φ v (z6 sh x j) ->aO w (dH st F φ) φ v (z6 sh y j))
 | .own b n,y,ps,hf,f=>by
  simp[la]at hf;split at hf
  . cases hf;exact⟨λv e=>e.keep (λ_ _=>rfl) (λk hk=> .inl hk) λ_ _=>rfl,λsh j v e=>e.keep (λ_ _=>rfl) (λk hk=> .inl hk) λ_ _=>rfl⟩
  . have⟨o,h2⟩:=Az h _ _ _ hf f;exact⟨λv e=> .stat (o v e),λsh j v e=> .stat (h2 sh j v e)⟩
 | .ptr b p,y,ps,hf,f=>by
  simp[la]at hf;split at hf
  . cases hf;exact⟨λv e=>e.keep (λ_ _=>rfl) (λk hk=> .inl hk) λ_ _=>rfl,λsh j v e=>e.keep (λ_ _=>rfl) (λk hk=> .inl hk) λ_ _=>rfl⟩
  . have⟨o,h2⟩:=Az h _ _ _ hf f;exact⟨λv e=> .stat (o v e),λsh j v e=> .stat (h2 sh j v e)⟩
 | .bB b i p,y,ps,hf,f=>by
  simp[la]at hf;split at hf
  . cases hf;exact⟨λv e=>e.keep (λ_ _=>rfl) (λk hk=> .inl hk) λ_ _=>rfl,λsh j v e=>e.keep (λ_ _=>rfl) (λk hk=> .inl hk) λ_ _=>rfl⟩
  . have⟨o,h2⟩:=Az h _ _ _ hf f;exact⟨λv e=> .stat (o v e),λsh j v e=> .stat (h2 sh j v e)⟩
 | .agg l,y,ps,hf,f=>by
  simp[la]at hf;split at hf;case h_2=>cases hf
  rename_i m qs J;cases hf;refine⟨λv e=>(by cases e with |stat e=>cases e),λs j v e=>?_⟩;cases s with
  |leaf=>simp[z6,fu,AV.ba]at e ⊢;exact .stat (.any _ (e.one rfl))
  |agg ss=>simp only[z6]at e ⊢;exact(zcg h l m ps J f).2 ss j v e
  |arr n s=>simp only[z6]at e ⊢;exact .stat (.any _ (e.one rfl))
 | .mc sh x,y,ps,hf,f=>by
  simp only[la]at hf;split at hf;case h_2=>cases hf
  rename_i z qs N;cases hf;have⟨_,r⟩:=zf7 h x z ps N f;refine⟨λv e=>?_,λs' j v e=>?_⟩
  . obtain⟨cs,rfl,hsz,O⟩:=e.gB;exact .mc cs sh z hsz λj k=>r sh j _ (O j k)
  . cases s' with
    |leaf=>simp only[z6,fu,AV.ba]at e ⊢;exact .stat (.any _ (e.one rfl))
    |agg ss=>simp only[z6]at e ⊢;exact .stat (.any _ (e.one rfl))
    |arr m s=>simp only[z6]at e ⊢;exact .stat (.any _ (e.one rfl))
 | .ax l,y,ps,hf,f=>by
  simp only[la]at hf;split at hf;case h_2=>cases hf
  rename_i m qs J;cases hf;have⟨⟨k0,H⟩,r⟩:=zcg h l m ps J f;refine⟨λv e=>?_,λs j v e=>?_⟩
  . cases e with
    |stat e=>cases e
    |ax K _ o h2=>exact .ax K m ac λj k=>H j k _ (h2 j ac)
  . cases s with
    |leaf=>simp only[z6,fu,AV.ba]at e ⊢;exact .stat (.any _ (e.one rfl))
    |agg ss=>simp only[z6]at e ⊢;exact .stat (.any _ (e.one rfl))
    |arr n s=>simp only[z6]at e ⊢;exact .stat (.any _ (e.one rfl))
 | .any,y,ps,hf,f | .int _ _,y,ps,hf,f | .bool _,y,ps,hf,f | .str _,y,ps,hf,f | .aA,y,ps,hf,f | .dJ,y,ps,hf,f | .seq _ _ _,y,ps,hf,f | .bN _ _ _,y,ps,hf,f
 | .bS _ _ _ _,y,ps,hf,f | .cM _ _ _ _,y,ps,hf,f | .lh _,y,ps,hf,f | .bx _ _,y,ps,hf,f | .arr _ _,y,ps,hf,f | .st _,y,ps,hf,f | .cI _ _,y,ps,hf,f | .when _ _,y,ps,hf,f=>by
  simp only[la]at hf;have⟨o,h2⟩:=Az h _ _ _ hf f;exact⟨λv e=> .stat (o v e),λsh j v e=> .stat (h2 sh j v e)⟩
theorem zcg {ks:List Nat} {st:St} (h:Rel C W0 F0 st a w F φ):∀ (l m:List AV) (ps:List Prop),Y2 ks st.heap l=some (m,ps) ->(∀ p∈ps,p) ->
 (l.length=m.length/\∀ j,j<m.length ->∀ v,aO w F φ v (l.getD j .any) ->aO w (dH st F φ) φ v (m.getD j .any))/\
 ∀ ss j v,aO w F φ v (zh ss l j) ->aO w (dH st F φ) φ v (zh ss m j)
 | [],m,ps,hf,_=>by
  simp[Y2]at hf;obtain⟨rfl,rfl⟩:=hf;refine⟨⟨rfl,λj k=>by simp at k⟩,λss j v e=>?_⟩;cases ss<;>simp only[zh]at e ⊢ <;>exact .stat (.any _ (e.one rfl))
 |x::l,m,ps,hf,f=>by
  simp only[Y2]at hf;split at hf;case h_2=>cases hf
  rename_i y E m' u o h2;cases hf;have⟨⟨l1,M⟩,l3⟩:=zcg h l m' u h2 λp hp=>f p (by simp[hp]);have⟨H,r⟩:=zf7 h x y E o λp hp=>f p (by simp[hp]);refine⟨⟨by simp[l1],λj k v e=>?_⟩,λss j v e=>?_⟩
  . cases j with
    |zero=>exact H v (by simpa using e)
    |succ j=>simpa using M j (by simpa using k) v (by simpa using e)
  . cases ss with
    |nil=>simp only[zh]at e ⊢;exact .stat (.any _ (e.one rfl))
    |cons s ss=>
     simp only[zh]at e ⊢;split
     . rename_i k;rw[x9 k]at e;exact r s j v e
     . rename_i k;rw[x8 k]at e;exact l3 ss _ v e
end
theorem z77 {prs:List (Nat×Nat)}:∀ (cs:List aw) (i j:Nat) (c:aw),X1 (pz (nB prs i cs))=true ->cs[j]? =some c ->get (nB prs i cs) (bw prs (i+j))=some c/\bw prs (i+j)∈pz (nB prs i cs)
 | [],i,j,c,_,h=>by simp at h
 |d::cs,i,0,c,_,h=>by
  simp at h;subst h;simp[nB,get,pz]
 |d::cs,i,j+1,c,f,h=>by
  simp[nB,pz,X1]at f;have⟨o,k⟩:=z77 cs (i+1) j c f.2 (by simpa using h);rw[show i+1+j=i+(j+1)from ac]at o k;have m:Nat.beq (bw prs i) (bw prs (i+(j+1)))=false:=by
   cases e:Nat.beq (bw prs i) (bw prs (i+(j+1)))with
   |false=>rfl
   |true=>
    rw[xc e,Q5.2 k]at f;cases f.1
  simp[nB,get,pz];grind
theorem zch {prs:List (Nat×Nat)}:∀ (cs:List aw) (i j f:Nat),X1 (pz (nB prs i cs))=true ->j<cs.length ->f<cs.length ->bw prs (i+j)=bw prs (i+f) ->j=f
 | [],_,_,_,_,h,_,_=>by simp at h
 |d::cs,i,j,f,m,s,o,e=>by
  simp only[nB,pz,X1,xa,xj]at m;have mem:∀ k,k<cs.length ->bw prs (i+(k+1))∈pz (nB prs (i+1) cs):=λk r=>by
   have :=(z77 cs (i+1) k _ m.2 (xe r)).2;grind
  have ne:∀ k,k<cs.length ->bw prs (i+0)≠bw prs (i+(k+1)):=λk r e=>by
   rw[wm]at e;rw[e,Q5.2 (mem k r)]at m;cases m.1
  cases j with
  |zero=>cases f with
   |zero=>rfl
   |succ f=>exact absurd e (ne f (by simpa using o))
  |succ j=>cases f with
   |zero=>exact absurd e.symm (ne j (by simpa using s))
   |succ f=>
    have :=zch cs (i+1) j f m.2 (by simpa using s) (by simpa using o) (by rw[show i+1+j=i+(j+1)from ac,show i+1+f=i+(f+1)from ac];exact e);omega
theorem zci:∀ (cs:List aw) {i:Nat} {c:aw},zcf cs=true ->cs[i]? =some c ->c.isRow=true
 | [],_,_,_,h=>by simp at h
 |d::cs,0,c,e,h=>by simp[zcf]at e;simp at h;subst h;exact e.1
 |d::cs,i+1,c,e,h=>by simp[zcf]at e;exact zci cs e.2 (by simpa using h)
theorem zmr {e:List Value} {l:List AV} (hl:e.length=l.length) (h:∀ j,j<l.length ->aO w F φ (e.getD j undef) (l.getD j .any)):aO w F φ (zgz e) (po l):=by
 match l,e,hl,h with
 | [],e,hl,h=>
  have :e=[]:=y3 (by simpa using hl);subst this;exact .ax #[] [] rfl λj f=>by simp at f
 | [y],e,hl,h=>
  match e,(hl:e.length=1)with
  | [v],_=>
   show aO w F φ v y;simp_all
 |y::z::m,e,hl,h=>
  match e,(hl:e.length=m.length+1+1)with
  |v::u::e,hlen=>exact .ax _ _ (by simpa using hlen) λj f=>by simp_all
theorem O0.ug {V:bj} {f:FuncId} {fn:Func} {args:List AV} {r:AV} {cs:List aw} (hf:V.C.P.funcs[f]? =some fn) (hn:fn.ntmps=V.C.ntmps) (hl:args.length<=V.C.ntmps) (hT:cf V.C) (hCC:cP V.C V.CC) (h:z6v V fn args r cs):
 O0 V.C.P V.C.G f args r cs:=by
 intro w F vs hro hglob hsz hr;unfold z6v at h;split at h;case h_2=>exact h.elim
 rename_i c hb;refine calls_of_wp hf hb (wp_mono (z98 hT hCC c _ _ _ _ _ _ h (Rel.start hn hl hro hglob hsz hr)) ?_);rintro e a' w' ⟨st,F',φ',hR,hq⟩;have fin:zin V fn r cs .ret st ->bodyPost V.C.P fn (λen w'=>∃ v F' φ',en= .returned v/\Below w.heap.size w w'/\(∀ k,F k ->F' k)/\(∀ k,F' k ->F k∨w.heap.size<=k)/\(∀ k,F' k ->k<w'.heap.size)/\aO w' F' φ' v r/\
  (∀ i c,cs[i]? =some c ->z24 w' F' φ' (λk=>w.heap.size<=k) i c)/\∀ i i' g,i<cs.length ->i'<cs.length ->(φ' i).bY=some g ->(φ' i').bY=some g ->i=i') .ret a' w':=by
  intro hq;unfold zin at hq;dsimp only at hq;split at hq;case h_2=>exact hq.elim
  rename_i ps s1 s2 hret;unfold zv3 at hret;split at hret;case h_2=>cases hret
  rename_i l hres;split at hret;case h_2=>cases hret
  rename_i m ps' hgood hfz;cases hret;simp only[xa]at hgood;obtain⟨hnd,hgood,hrows⟩:=hgood;obtain⟨hps,hle⟩:=pb hq;obtain⟨us,h1,h2,h3⟩:=z76 hR hT _ _ hres;have hv:=zmr h2 h3;generalize hks:pz (nB (vl (po l) r) 0 cs)=ks at *;generalize hpr:vl (po l) r=prs at *;have hR2:Rel V.C (.of w) F {st with heap:=r7 ks st.heap} a' w' F' φ':=
   ⟨hR.env,λb c hc=>hR.heap b c (tt hc).1,λb b' c c' g h1 h2=>hR.inj b b' c c' g (tt h1).1 (tt h2).1,hR.ro,hR.base,hR.sub,hR.new,hR.cW,hR.fW,hR.bZ,λb p hp=>by cases hp⟩
  have hv2:=(zf7 (ks:=ks) hR2 _ _ _ hfz hps).1 _ hv;have hlent:∀ k,dH {st with heap:=r7 ks st.heap} F' φ' k ->F k∨w.heap.size<=k:=by
   rintro k (hk | ⟨b,c,hb,hk⟩)
   . exact(hR.new k hk).imp_right λh=>h.resolve_right λhf=>hf
   . exact .inr (((hR2.heap b c hb).lt hk).2.2.resolve_right λhf=>hf)
  have hlt:∀ k,dH {st with heap:=r7 ks st.heap} F' φ' k ->k<w'.heap.size:=by
   rintro k (hk | ⟨b,c,hb,hk⟩)
   . exact hR.ro k hk
   . exact((hR2.heap b c hb).lt hk).1
  have hR3:Rel {V.C with ntmps:=1} (.of w) F ⟨[(0,m)],kk ks st.heap⟩ {tmps:=#[zgz us],defers:=[]} w' (dH {st with heap:=r7 ks st.heap} F' φ') φ':=by
   refine⟨λs x hs=>?_,λb c hc=>?_,λb b' c c' g h1 h2=>hR.inj b b' c c' g (MC h1).1 (MC h2).1,hlt,hR.base,λk hk=> .inl (hR.sub k hk),λk hk=>(hlent k hk).imp_right .inl,rfl,rfl,λg x hg=>(hR.bZ g x hg).keep (λ_ _=>rfl) λ_ hk=> .inl hk,λb p hp=>by cases hp⟩
   . simp only[get]at hs;split at hs
     . rename_i e;cases hs;have :=xc e;subst this;exact⟨_,rfl,hv2⟩
     . cases hs
   . obtain⟨k1,k2⟩:=MC hc;have hb:=hR.heap b c k1;refine hb.keep (λ_ _=>rfl) (λ_ hk=> .inl hk) (λg hg=>⟨rfl, ?_⟩) rfl λ_ _=>rfl;rintro(h5 | ⟨b',c',h5,h6⟩)
     . exact(hb.lt hg).2.1 h5
     . obtain⟨h7,h8⟩:=tt h5;exact h8 (hR.inj b' b c' c g h7 k1 h6 hg ▸ k2)
  obtain⟨φ4,hR4⟩:=hR3.weaken hle;obtain⟨v,hv4,hrep⟩:=hR4.env 0 (r.sub (bw prs)) rfl;simp at hv4;subst hv4;refine⟨hR.cW,_,z8k h1,_,_,λi=>φ4 (bw prs i),rfl,hR.base.toBelow,λk hk=> .inl (hR.sub k hk),hlent,hlt,zzq (m:=below cs.length) (n:=bw prs) (φ2:=φ4) (λ_ _=>rfl) hgood hrep,λi c hc=>?_,λi i' g hi hi' e e'=>?_⟩
  . have hg:=(z77 cs 0 i c (by rw[hks];exact hnd) hc).1;rw[xy]at hg;have hB:=(hR4.heap _ c hg).base (base':=λk=>w.heap.size<=k) λk hk=>hk.resolve_right λhf=>hf;have hrow:=zci cs hrows hc;cases c with
    |cell tc sh x=>cases hrow
    |row ty sh n f=>exact hB
  . have k1:=(z77 cs 0 i _ (by rw[hks];exact hnd) (xe hi)).1;have k2:=(z77 cs 0 i' _ (by rw[hks];exact hnd) (xe hi')).1;rw[xy]at k1 k2;have :=hR4.inj _ _ _ _ g k1 k2 e e';have :=zch cs 0 i i' (prs:=prs) (by rw[hks];exact hnd) hi hi' (by rw[xy,xy];exact this);exact this
 cases e with
 |normal=>exact fin hq
 |ret=>exact fin hq
 |_=>exact hq.elim
end
theorem iJ.of {P : Program} {f : FuncId} {fn : Func} (i : P.funcs[f]? = some fn) (h : (fn.name == "runtime.NumGoroutine") = false) (j : fn.body.isNone = false) : iJ P f := by
 intro e w;simp only[callFunc,Sem.run_bind,run_program,Result.andThen_ok,i,h,j];rfl
theorem zh0:∀ s:Shape,s.same s=true:=by
 intro s;induction s using Shape.rec (motive_2:=λl=>Shape.l9 l l=true)with
 |leaf=>rfl
 |agg l e=>exact e
 |arr n s e=>simp[Shape.same,e]
 |nil=>rfl
 |cons s l h f=>simp[Shape.l9,h,f]
mutual
theorem le_refl (h h':List (Nat×aw)):∀ x:AV,(AV.kJ h h' x x).P
 | .agg l | .ax l=>by simp only[AV.kJ];exact zkh h h' l
 | .mc sh x=>by simp[AV.kJ,Gt.fH,Gt.ur];exact⟨zh0 sh,le_refl h h' x⟩
 | .int _ _ | .own _ _ | .ptr _ _ | .aA | .arr _ _=>by simp[AV.kJ,Gt.fH,Gt.ur,Gt.P,zil]
 | .seq _ _ _=>by simp[AV.kJ,Gt.fH,Gt.ur,Gt.P,zh0]
 | .bN _ _ _ | .cM _ _ _ _ | .bool _ | .str _ | .any | .dJ | .bx _ _ | .bB _ _ _ | .cI _ _ | .st _ | .when _ _ | .lh _ | .bS _ _ _ _=>by simp[AV.kJ,Gt.P,Gt.ur,AV.le,AV.ba]
theorem zkh (h h':List (Nat×aw)):∀ l:List AV,(AV.np h h' l l).P
 | []=>trivial
 |x::l=>by simp[AV.np,Gt.fH];exact⟨le_refl h h' x,zkh h h' l⟩
end
def LS (x y:AV):Prop:=(AV.kJ [] [] x y).P
theorem ep (x:AV):LS x x↔True:=⟨λ_=>trivial,λ_=>le_refl _ _ x⟩
theorem eE {x y:AV} (h:y=x):LS x y:=by subst h;exact le_refl _ _ _
def aL (P:Program) (G:List (Nat×AV)) (f:FuncId) (args:List AV) (r:AV):Prop:=(iJ P f/\vg P G f args r)∨Tv P f args r
def cd (P:Program) (G:List (Nat×AV)) (f:FuncId) (args:List AV) (r:AV) (cs:List aw):Prop:=iJ P f/\O0 P G f args r cs
theorem z9a (C:bt) (j:∀ f e r i,C.r9 f e r i ->cd C.P C.G f e r i):cP C (aL C.P C.G):=⟨λ_ _ _ h=>h,j⟩
theorem aL.of {V : bj} {f : FuncId} {fn : Func} {args : List AV} {r : AV} (j : V.C.P.funcs[f]? = some fn) (e : ((fn.name == "runtime.NumGoroutine") || fn.body.isNone || !Nat.beq fn.ntmps V.C.ntmps || !Nat.ble args.length V.C.ntmps) = false) (o : cf V.C) (i : V.CC = aL V.C.P V.C.G) (h : zL V fn args r)
 (s:∀ f k r m,V.C.r9 f k r m ->cd V.C.P V.C.G f k r m:=by first |exact λ_ _ _ _ h=>False.elim h |exact λ_ _ _ _ h=>h):
 aL V.C.P V.C.G f args r:=by
 simp only[xg,yc]at e;have⟨⟨⟨z,y⟩,x⟩,u⟩:=e;exact .inl ⟨iJ.of j z y,vg.ug j (xc x) (wv u) o (by rw[i];exact z9a V.C s) h⟩
theorem cd.of {V : bj} {f : FuncId} {fn : Func} {args : List AV} {r : AV} {i : List aw} (k : V.C.P.funcs[f]? = some fn) (e : ((fn.name == "runtime.NumGoroutine") || fn.body.isNone || !Nat.beq fn.ntmps V.C.ntmps || !Nat.ble args.length V.C.ntmps) = false) (o : cf V.C) (j : V.CC = aL V.C.P V.C.G) (h : z6v V fn args r i)
 (s:∀ f m r i,V.C.r9 f m r i ->cd V.C.P V.C.G f m r i:=by first |exact λ_ _ _ _ h=>False.elim h |exact λ_ _ _ _ h=>h):
 cd V.C.P V.C.G f args r i:=by
 simp only[xg,yc]at e;have⟨⟨⟨z,y⟩,x⟩,u⟩:=e;exact⟨iJ.of k z y,O0.ug k (xc x) (wv u) o (by rw[j];exact z9a V.C s) h⟩
theorem aL.weaken {P:Program} {G:List (Nat×AV)} {f:FuncId} {args args':List AV} {r:AV} (h:aL P G f args r) (hs:AV.bL args'=true) (hl:AV.lI [] [] args' args):aL P G f args' r:=by
 have⟨x,k⟩:=zim hl;rcases h with⟨h1,h2⟩ |h
 . exact .inl ⟨h1,λw F e u s o i=>h2 w F e u s ac λj m=>zf6 (Ah hs j) (k j ac) (i j ac)⟩
 . exact .inr λw F e o i=>h w F e ac λj m=>zf6 (Ah hs j) (k j ac) (i j ac)
theorem aL.calls {P : Program} {G : List (Nat × AV)} {f : FuncId} {fn : Func} {args : List AV} {r : AV} (h : aL P G f args r) (k : P.funcs[f]? = some fn) (e : ((fn.name == "runtime.NumGoroutine") || fn.body.isNone) = false) : vg P G f args r := by
 simp only[xg]at e;rcases h with⟨_,h⟩ |h
 . exact h
 . intro w F j _ _ o m;have⟨v,i,_⟩:=h w F j o m;rw[iJ.of k e.1 e.2]at i;cases i
end Go.AV
namespace Go.Proofs.S25
open Go Go.AV
open Go.IntKind renaming i64 -> j6
open Go.AV.Shape (leaf)
noncomputable section
structure aP where
 op:Int
 a:Int
 b:Int
 c:Int
 obj:Int
 n:Int
 fn:Int
 ord:Int
 deriving Inhabited,DecidableEq
structure jV where
 name:List UInt8
 init:Int
 deriving Inhabited,DecidableEq
structure cX where
 name:List UInt8
 code:List aP
 deriving Inhabited,DecidableEq
structure dW where
 fn:Int
 arg:Int
 deriving Inhabited,DecidableEq
structure aj where
 vars:List jV
 aS:List (List UInt8)
 conds:List (List UInt8)
 al:List cX
 af:List dW
 deriving Inhabited,DecidableEq
structure aF where
 id:Int
 fn:Int
 pc:Int
 az:List Int
 steps:Int
 kids:Int
 phase:Int
 status:Int
 fault:Int
 held:List Int
 deriving Inhabited,DecidableEq
structure Mem where
 vars:List Int
 ae:List Int
 aa:List (List Int)
 sig:List Int
 deriving Inhabited,DecidableEq
structure cZ where
 var:Int
 val:Int
 deriving Inhabited,DecidableEq
structure cg where
 aC:Int
 first:Int
 entries:List cZ
 deriving Inhabited,DecidableEq
structure ah where
 af:List aF
 mem:Mem
 ag:List cg
 deriving Inhabited,DecidableEq
structure Ev where
 aG:Int
 idx:Int
 kind:Int
 obj:Int
 mutex:Int
 entry:Int
 ord:Int
 read:Int
 wrote:Int
 deriving Inhabited,DecidableEq
variable (e:Ev) (sh:Shape) (s:ah) (m:Mem) (t:aF) (b:cg) (i:aP) (p:aj) (n:Int) (l:List Int) {α:Type}
def dp:aP:=⟨0,0,0,0,0,0,0,0⟩
def eR:jV:=⟨[],0⟩
def bu:cX:=⟨[],[]⟩
def dL:dW:=⟨0,0⟩
def lX:aj:=⟨[],[],[],[],[]⟩
def au:aF:=⟨0,0,0,List.replicate 8 0,0,0,0,0,0,[]⟩
def eg:Mem:=⟨[],[],[],[]⟩
def cw:cZ:=⟨0,0⟩
def aD:cg:=⟨0,0,[]⟩
def aE:ah:=⟨[],eg,[]⟩
def aH:Ev:=⟨0,0,0,0,0,0,0,0,0⟩
def zy:Shape:= .agg [.leaf, .leaf, .leaf, .leaf, .leaf, .leaf, .leaf, .leaf]
def ct:Shape:= .agg [.leaf, .leaf]
def z7:Shape:= .agg [.leaf, .leaf, .leaf, .leaf, .leaf]
def zk:Shape:= .agg [.leaf, .leaf, .leaf, .arr 8 .leaf, .leaf, .leaf, .leaf, .leaf, .leaf, .leaf]
def zm:Shape:= .agg [.leaf, .leaf, .leaf, .leaf]
def cz:Shape:= .agg [.leaf, .leaf, .leaf]
def aM:Shape:= .agg [.leaf,zm, .leaf]
def bp:Shape:= .agg [.leaf, .leaf, .leaf, .leaf, .leaf, .leaf, .leaf, .leaf, .leaf]
abbrev i64:AV:= co n
def ab:AV:= .seq .leaf l.length λi=> co (l.getD i 0)
def br (l:List (List UInt8)):AV:= .seq .leaf l.length λi=> .str (l.getD i [])
def encI:AV:= .agg [co i.op,co i.a,co i.b,co i.c,co i.obj,co i.n,co i.fn,co i.ord]
def iX (l:List aP):AV:= .seq zy l.length λi=>encI (l.getD i dp)
def lM (v:jV):AV:= .agg [.str v.name,co v.init]
def fK (l:List jV):AV:= .seq ct l.length λi=>lM (l.getD i eR)
def ez (f:cX):AV:= .agg [.str f.name,iX f.code]
def dv (l:List cX):AV:= .seq ct l.length λi=>ez (l.getD i bu)
def encS (s:dW):AV:= .agg [co s.fn,co s.arg]
def nX (l:List dW):AV:= .seq ct l.length λi=>encS (l.getD i dL)
def ak:AV:= .agg [fK p.vars,br p.aS,br p.conds,dv p.al,nX p.af]
def my:AV:= .arr 8 λi=> co (l.getD i 0)
def aq:AV:= .agg [co t.id,co t.fn,co t.pc,my t.az,co t.steps,co t.kids,co t.phase,co t.status,co t.fault,ab t.held]
def aK (l:List aF):AV:= .seq zk l.length λi=>aq (l.getD i au)
def aJ (l:List (List Int)):AV:= .seq .leaf l.length λi=>ab (l.getD i [])
def ao:AV:= .agg [ab m.vars,ab m.ae,aJ m.aa,ab m.sig]
def de (e:cZ):AV:= .agg [co e.var,co e.val]
def ck (l:List cZ):AV:= .seq ct l.length λi=>de (l.getD i cw)
def aB:AV:= .agg [co b.aC,co b.first,ck b.entries]
def bc (l:List cg):AV:= .seq cz l.length λi=>aB (l.getD i aD)
def ze:AV:= .agg [aK s.af,ao s.mem,bc s.ag]
def bP:AV:= .agg [co e.aG,co e.idx,co e.kind,co e.obj,co e.mutex,co e.entry,co e.ord,co e.read,co e.wrote]
def vI:AV:= .mc zy (encI i)
def vP:AV:= .mc z7 (ak p)
def vT:AV:= .mc zk (aq t)
def vM:AV:= .mc zm (ao m)
def vB:AV:= .mc cz (aB b)
def cj:AV:= .mc aM (ze s)
def dg:AV:= .mc bp (bP e)
def dI:AV ->Int
 | .int _ a=>a
 |_=>0
def cQ:AV ->List UInt8
 | .str a=>a
 |_=>[]
def dR (d:AV ->α):AV ->List α
 | .seq _ n f | .bN _ n f=>(List.range n).map λi=>d (f i)
 |_=>[]
def dA (d:AV ->α):AV ->List α
 | .arr n f=>(List.range n).map λi=>d (f i)
 |_=>[]
def eQ:AV ->aP
 | .agg [.int _ a, .int _ b, .int _ c, .int _ d, .int _ e, .int _ f, .int _ g, .int _ h]=>⟨a,b,c,d,e,f,g,h⟩
 |_=>dp
def dV:AV ->jV
 | .agg [.str s, .int _ n]=>⟨s,n⟩
 |_=>eR
def dF:AV ->cX
 | .agg [.str s,x]=>⟨s,dR eQ x⟩
 |_=>bu
def dS:AV ->dW
 | .agg [.int _ a, .int _ b]=>⟨a,b⟩
 |_=>dL
def dP:AV ->aj
 | .agg [a,b,c,d,e]=>⟨dR dV a,dR cQ b,dR cQ c,dR dF d,dR dS e⟩
 |_=>lX
def dT:AV ->aF
 | .agg [.int _ a, .int _ b, .int _ c,r, .int _ d, .int _ e, .int _ f, .int _ g, .int _ h,x]=>⟨a,b,c,dA dI r,d,e,f,g,h,dR dI x⟩
 |_=>au
def dM:AV ->Mem
 | .agg [a,b,c,d]=>⟨dR dI a,dR dI b,dR (dR dI) c,dR dI d⟩
 |_=>eg
def dE:AV ->cZ
 | .agg [.int _ a, .int _ b]=>⟨a,b⟩
 |_=>cw
def dB:AV ->cg
 | .agg [.int _ a, .int _ b,x]=>⟨a,b,dR dE x⟩
 |_=>aD
def gF:AV ->ah
 | .agg [a,m,b]=>⟨dR dT a,dM m,dR dB b⟩
 |_=>aE
def jZ:AV ->Ev
 | .agg [.int _ a, .int _ b, .int _ c, .int _ d, .int _ e, .int _ f, .int _ g, .int _ h, .int _ i]=>⟨a,b,c,d,e,f,g,h,i⟩
 |_=>aH
theorem zki (l:List α) (d:α):(List.range l.length).map (λi=>l.getD i d)=l:=by
 apply ji be;grind
theorem uL {d:AV ->α} {enc:α ->AV} {z:α} {sh:Shape} (h:∀ a,d (enc a)=a) (l:List α):dR d (.seq sh l.length λi=>enc (l.getD i z))=l:=by
 simp[dR,h];exact zki l z
theorem ziq:eQ (encI i)=i:=rfl
theorem znw (i:jV):dV (lM i)=i:=rfl
theorem znx (i:dW):dS (encS i)=i:=rfl
theorem zny (i:cZ):dE (de i)=i:=rfl
theorem znz (i:Ev):jZ (bP i)=i:=rfl
theorem mX:dR dI (ab l)=l:=uL (enc:=λn=> co n) (λ_=>rfl) l
theorem Ao (l:List (List UInt8)):dR cQ (br l)=l:=uL (enc:=λn=> .str n) (λ_=>rfl) l
theorem zzx (l:List aP):dR eQ (iX l)=l:=uL ziq l
theorem EL (l:List jV):dR dV (fK l)=l:=uL znw l
theorem zkj (f:cX):dF (ez f)=f:=by
 show(⟨f.name,dR eQ (iX f.code)⟩:cX)=f;rw[zzx]
theorem Fk (l:List cX):dR dF (dv l)=l:=uL zkj l
theorem zzy (l:List dW):dR dS (nX l)=l:=uL znx l
theorem zv4:dP (ak p)=p:=by
 show(⟨dR dV (fK p.vars),dR cQ (br p.aS),dR cQ (br p.conds),dR dF (dv p.al),dR dS (nX p.af)⟩:aj)=p;rw[EL,Ao,Ao,Fk,zzy]
theorem vQ {l:List Int} (h:l.length=8):dA dI (my l)=l:=by
 show(List.range 8).map (λi=>l.getD i 0)=l;rw[<- h];exact zki l 0
theorem sK (l:List cZ):dR dE (ck l)=l:=uL zny l
theorem zkk:dB (aB b)=b:=by
 show(⟨b.aC,b.first,dR dE (ck b.entries)⟩:cg)=b;rw[sK]
theorem V9 (l:List cg):dR dB (bc l)=l:=uL zkk l
theorem JL (l:List (List Int)):dR (dR dI) (aJ l)=l:=uL (enc:=ab) mX l
theorem zo0:dM (ao m)=m:=by
 show(⟨dR dI (ab m.vars),dR dI (ab m.ae),dR (dR dI) (aJ m.aa),dR dI (ab m.sig)⟩:Mem)=m;rw[mX,mX,JL,mX]
theorem jJ (h:t.az.length=8):dT (aq t)=t:=by
 show(⟨t.id,t.fn,t.pc,dA dI (my t.az),t.steps,t.kids,t.phase,t.status,t.fault,dR dI (ab t.held)⟩:aF)=t;rw[vQ h,mX]
def zss:List (List UInt8):=[[99,111,110,115,116],[99,111,112,121],[99,97,108,99],[106,117,109,112],[98,114,97,110,99,104],[97,115,115,101,114,116],[115,116,111,112],[108,111,97,100],[115,116,111,114,101],[115,119,97,112],[102,101,116,99,104,97,100,100],[99,97,115],[102,101,110,99,101],[97,119,97,105,116],[108,111,99,107],[117,110,108,111,99,107],[116,114,121,108,111,99,107],[119,97,105,116],[115,105,103,110,97,108],[98,114,111,97,100,99,97,115,116],[115,112,97,119,110],[106,111,105,110]]
def A5:List (List Bool):=[[true,false,false,false,true,false,false],[true,true,false,false,false,false,false],[true,true,true,false,false,true,false],[false,false,false,false,true,false,false],[false,true,false,false,true,false,false],[false,true,false,false,false,false,false],[false,false,false,false,false,false,false],[true,false,false,true,false,false,true],[false,true,false,true,false,false,true],[true,true,false,true,false,false,true],[true,true,false,true,false,false,true],[true,true,true,true,false,false,true],[false,false,false,false,false,false,false],[true,true,false,true,false,true,true],[false,false,false,true,false,false,false],[false,false,false,true,false,false,false],[true,false,false,true,false,false,false],[false,false,false,true,true,false,false],[false,false,false,true,false,false,false],[false,false,false,true,false,false,false],[true,true,false,true,false,false,false],[false,true,false,false,false,false,false]]
def iK:Shape:= .agg [.leaf, .arr 7 .leaf]
def dC (op:Int) (k:Nat):Bool:=(A5.getD (op - 1).toNat []).getD k false
def kn:List (List UInt8):=[[97,100,100],[115,117,98],[109,117,108],[97,110,100],[111,114],[120,111,114],[101,113],[110,101],[108,116],[108,101]]
def bw (f:Int):List UInt8:=if f<1∨10<f then []else kn.getD (f - 1).toNat []
structure ap0 where
 most:Int
 order:Bool
 low:Int
 high:Int
 wrote:Bool
 least:Int
 access:Int
 write:Bool
def GG:List (Nat×AV):=[
 (0, .bx (.arr 22 iK) (.arr 22 λi=> .agg [.str (zss.getD i []), .arr 7 λk=> .bool ((A5.getD i []).getD k false)])),
 (1, .bx (.arr 10 .leaf) (.arr 10 λi=> .str (kn.getD i [])))]
def TT:List (Nat×cT):=[
 (3,⟨.leaf,co 0,8, .int .i64,false⟩),
 (4,⟨.leaf, .bool false,1, .bool,false⟩),
 (5,⟨.leaf, .int .u8 0,1, .int .u8,false⟩),
 (9,⟨.leaf, .str [],16, .string,false⟩),
 (21,⟨.leaf, .int .i32 0,4, .int .i32,false⟩),
 (240,⟨.leaf, .int .u32 0,4, .int .u32,false⟩),
 (44,⟨.leaf,co 0,8, .int .i64,false⟩),
 (83,⟨.leaf,co 0,8, .int .i64,false⟩),
 (84,⟨.leaf,co 0,8, .int .i64,false⟩),
 (52,⟨.leaf,co 0,8, .int .i64,false⟩),
 (53,⟨.leaf,co 0,8, .int .i64,false⟩),
 (102,⟨.leaf,co 0,8, .int .i64,false⟩),
 (103,⟨.leaf,co 0,8, .int .i64,false⟩),
 (22,⟨.leaf, .aA,24, .slice 107,false⟩),
 (23,⟨.leaf, .aA,24, .slice 9,false⟩),
 (198,⟨.leaf, .aA,24, .slice 23,false⟩),
 (24,⟨.leaf, .aA,24, .slice 70,false⟩),
 (25,⟨.leaf, .aA,24, .slice 100,false⟩),
 (68,⟨.leaf, .aA,24, .slice 105,false⟩),
 (35,⟨.leaf, .aA,24, .slice 86,false⟩),
 (39,⟨.leaf, .aA,24, .slice 90,false⟩),
 (88,⟨.leaf, .aA,24, .slice 117,false⟩),
 (31,⟨.leaf, .aA,24, .slice 3,false⟩),
 (36,⟨.leaf, .aA,24, .slice 31,false⟩),
 (107,⟨ct, .agg [.str [],co 0],24, .struct [9,3],true⟩),
 (105,⟨zy, .agg [co 0,co 0,co 0,co 0,co 0,co 0,co 0,co 0],64, .struct [102,3,3,3,3,3,103,53],true⟩),
 (70,⟨ct, .agg [.str [], .aA],40, .struct [9,68],false⟩),
 (100,⟨ct, .agg [co 0,co 0],16, .struct [3,3],true⟩),
 (27,⟨z7, .agg [.aA, .aA, .aA, .aA, .aA],120, .struct [22,23,23,24,25],false⟩),
 (82,⟨.arr 8 .leaf, .arr 8 (λ_=> co 0),64, .arr 8 3,true⟩),
 (255,⟨.arr 7 .leaf, .arr 7 (λ_=> co 0),56, .arr 7 3,false⟩),
 (227,⟨.arr 4 .leaf, .arr 4 (λ_=> co 0),32, .arr 4 3,false⟩),
 (259,⟨.arr 10 .leaf, .arr 10 (λ_=> .str []),160, .arr 10 9,false⟩),
 (243,⟨iK, .agg [.str [], .arr 7 (λ_=> .bool false)],24, .struct [9,241],false⟩),
 (244,⟨.arr 22 iK, .arr 22 (λ_=> .agg [.str [], .arr 7 (λ_=> .bool false)]),528, .arr 22 243,false⟩),
 (257,⟨.arr 3 .leaf, .arr 3 (λ_=> co 0),24, .arr 3 3,false⟩),
 (241,⟨.arr 7 .leaf, .arr 7 (λ_=> .bool false),7, .arr 7 4,false⟩),
 (86,⟨zk, .agg [co 0,co 0,co 0, .arr 8 (λ_=> co 0),co 0,co 0,co 0,co 0,co 0, .aA],152,
  .struct [3,3,3,82,3,3,83,84,44,31],false⟩),
 (38,⟨zm, .agg [.aA, .aA, .aA, .aA],96, .struct [31,31,36,31],false⟩),
 (90,⟨cz, .agg [co 0,co 0, .aA],40, .struct [3,3,88],false⟩),
 (117,⟨ct, .agg [co 0,co 0],16, .struct [3,3],true⟩),
 (41,⟨aM, .agg [.aA, .agg [.aA, .aA, .aA, .aA], .aA],144, .struct [35,38,39],false⟩),
 (55,⟨bp, .agg [co 0,co 0,co 0,co 0,co 0,co 0,co 0,co 0,co 0],72,
  .struct [3,3,52,3,3,3,53,3,3],true⟩),
 (28,⟨.leaf,co 0,8, .int .i64,false⟩),
 (30,⟨ct, .agg [co 0,co 0],16, .struct [28,3],true⟩),
 (73,⟨.agg [z7,ct], .agg [.agg [.aA, .aA, .aA, .aA, .aA], .agg [co 0,co 0]],136, .struct [27,30],false⟩),
 (34,⟨.leaf, .aA,24, .slice 55,false⟩),
 (43,⟨.agg [.leaf,aM], .agg [.aA, .agg [.aA, .agg [.aA, .aA, .aA, .aA], .aA]],168, .struct [34,41],false⟩),
 (115,⟨.agg [aM,bp, .leaf], .agg [.agg [.aA, .agg [.aA, .aA, .aA, .aA], .aA], .agg [co 0,co 0,co 0,co 0,co 0,co 0,co 0,co 0,co 0],co 0],224, .struct [41,55,44],false⟩),
 (50,⟨.agg [z7,ct, .leaf], .agg [.agg [.aA, .aA, .aA, .aA, .aA], .agg [co 0,co 0], .aA],160, .struct [27,30,31],false⟩),
 (150,⟨ct, .agg [co 0,co 0],16, .struct [3,3],true⟩),
 (155,⟨.agg [aM, .leaf], .agg [.agg [.aA, .agg [.aA, .aA, .aA, .aA], .aA],co 0],152, .struct [41,3],false⟩)]
theorem za {n:Int} (e: -9223372036854775808<=n) (h2:n<=9223372036854775807):aU .i64 n:=by
 show(if(true&&decide (n % 18446744073709551616>=9223372036854775808))=true then n % 18446744073709551616 - 18446744073709551616 else n % 18446744073709551616)=n;rw[wd];by_cases h:n % 18446744073709551616>=9223372036854775808
 . rw[j3 h,x9 rfl];omega
 . rw[decide_eq_false h,x8 be];omega
theorem dl {n:Int} (e: -9223372036854775808<=n:=by omega) (h2:n<=9223372036854775807:=by omega):aU .i64 n:=za e h2
theorem oY (l:List α) (p:α ->Bool) (d:α):l.all p=true↔∀ i,i<l.length ->p (l.getD i d)=true:=by
 rw[yy];constructor
 . grind
 . intro h x e;obtain⟨i,f,rfl⟩:=List.mem_iff_getElem.1 e;grind
theorem zb7 (l:List α) (p:α ->Bool) (d:α):l.any p=true↔∃ i,i<l.length/\p (l.getD i d)=true:=by
 rw[List.any_eq_true];constructor
 . rintro⟨x,h,f⟩;obtain⟨i,e,rfl⟩:=List.mem_iff_getElem.1 h;exact⟨i,e,by simpa [e]using f⟩
 . rintro⟨i,e,f⟩;exact⟨l[i],List.getElem_mem e,by simpa [e]using f⟩
theorem wN {a b:List α} {d:α} (hl:a.length=b.length) (h:∀ j,j<a.length ->a.getD j d=b.getD j d):a=b:=by
 apply ji hl;grind
theorem fC {p:Bool} (h:p=true ->False):false=p:=by cases p;rfl;exact(h rfl).elim
theorem aay {p:Bool} (h:p=false ->False):true=p:=by cases p;exact(h rfl).elim;rfl
theorem zdz (n:Nat) (f:Nat ->AV):av (.seq sh n f)= .seq sh n f:=rfl
theorem ze0 (k:IntKind) (n:Int):av (.int k n)= .int k n:=rfl
theorem ze1 (l:List UInt8):av (.str l)= .str l:=rfl
theorem aa6 {a b:Prop}:(a ->b ->a/\b)↔True:=⟨λ_=>trivial,λ_ x y=>⟨x,y⟩⟩
theorem sI:Shape.agg [Shape.leaf,Shape.leaf,Shape.leaf,Shape.leaf,Shape.leaf,Shape.leaf,Shape.leaf,Shape.leaf]=zy:=rfl
theorem s2:Shape.agg [Shape.leaf,Shape.leaf]=ct:=rfl
theorem s3:Shape.agg [Shape.leaf,Shape.leaf,Shape.leaf]=cz:=rfl
theorem s4:Shape.agg [Shape.leaf,Shape.leaf,Shape.leaf,Shape.leaf]=zm:=rfl
theorem s5:Shape.agg [Shape.leaf,Shape.leaf,Shape.leaf,Shape.leaf,Shape.leaf]=z7:=rfl
theorem s9:Shape.agg [Shape.leaf,Shape.leaf,Shape.leaf,Shape.leaf,Shape.leaf,Shape.leaf,Shape.leaf,Shape.leaf,Shape.leaf]=bp:=rfl
theorem sT:Shape.agg [Shape.leaf,Shape.leaf,Shape.leaf,Shape.arr 8 Shape.leaf,Shape.leaf,Shape.leaf,Shape.leaf,Shape.leaf,Shape.leaf,Shape.leaf]=zk:=rfl
theorem sS:Shape.agg [Shape.leaf,zm,Shape.leaf]=aM:=rfl
theorem rI:(AV.seq Shape.leaf l.length λi=>AV.int IntKind.i64 (l.getD i 0))=ab l:=rfl
theorem rS (l:List (List UInt8)):(AV.seq Shape.leaf l.length λi=>AV.str (l.getD i []))=br l:=rfl
theorem rIn (l:List aP):(AV.seq zy l.length λi=>encI (l.getD i dp))=iX l:=rfl
theorem rV (l:List jV):(AV.seq ct l.length λi=>lM (l.getD i eR))=fK l:=rfl
theorem rF (l:List cX):(AV.seq ct l.length λi=>ez (l.getD i bu))=dv l:=rfl
theorem rSt (l:List dW):(AV.seq ct l.length λi=>encS (l.getD i dL))=nX l:=rfl
theorem rT (l:List aF):(AV.seq zk l.length λi=>aq (l.getD i au))=aK l:=rfl
theorem rQ (l:List (List Int)):(AV.seq Shape.leaf l.length λi=>ab (l.getD i []))=aJ l:=rfl
theorem rE (l:List cZ):(AV.seq ct l.length λi=>de (l.getD i cw))=ck l:=rfl
theorem rB (l:List cg):(AV.seq cz l.length λi=>aB (l.getD i aD))=bc l:=rfl
theorem fI:AV.agg [AV.int IntKind.i64 i.op,AV.int IntKind.i64 i.a,AV.int IntKind.i64 i.b,AV.int IntKind.i64 i.c,AV.int IntKind.i64 i.obj,AV.int IntKind.i64 i.n,AV.int IntKind.i64 i.fn,AV.int IntKind.i64 i.ord]=encI i:=rfl
theorem fV (i:jV):AV.agg [AV.str i.name,AV.int IntKind.i64 i.init]=lM i:=rfl
theorem fF (i:cX):AV.agg [AV.str i.name,iX i.code]=ez i:=rfl
theorem fS (i:dW):AV.agg [AV.int IntKind.i64 i.fn,AV.int IntKind.i64 i.arg]=encS i:=rfl
theorem fP:AV.agg [fK p.vars,br p.aS,br p.conds,dv p.al,nX p.af]=ak p:=rfl
theorem fA:(AV.arr 8 λi=>AV.int IntKind.i64 (l.getD i 0))=my l:=rfl
theorem fT:AV.agg [AV.int IntKind.i64 t.id,AV.int IntKind.i64 t.fn,AV.int IntKind.i64 t.pc,my t.az,AV.int IntKind.i64 t.steps,AV.int IntKind.i64 t.kids,AV.int IntKind.i64 t.phase,AV.int IntKind.i64 t.status,AV.int IntKind.i64 t.fault,ab t.held]=aq t:=rfl
theorem fM:AV.agg [ab m.vars,ab m.ae,aJ m.aa,ab m.sig]=ao m:=rfl
theorem fE (e:cZ):AV.agg [AV.int IntKind.i64 e.var,AV.int IntKind.i64 e.val]=de e:=rfl
theorem fB:AV.agg [AV.int IntKind.i64 b.aC,AV.int IntKind.i64 b.first,ck b.entries]=aB b:=rfl
theorem fSt:AV.agg [aK s.af,ao s.mem,bc s.ag]=ze s:=rfl
theorem fEv:AV.agg [AV.int IntKind.i64 e.aG,AV.int IntKind.i64 e.idx,AV.int IntKind.i64 e.kind,AV.int IntKind.i64 e.obj,AV.int IntKind.i64 e.mutex,AV.int IntKind.i64 e.entry,AV.int IntKind.i64 e.ord,AV.int IntKind.i64 e.read,AV.int IntKind.i64 e.wrote]=bP e:=rfl
def fj (n:Nat):bt:={P:=Tryz.prog,T:=TT,G:=GG,Cf:=false,ntmps:=n}
theorem zq (n:Nat):cf (fj n):=mC (am)
def RR.{u} {α:Sort u} (a:α):Prop:=a=a
def RW (n:Nat) (f:Nat ->AV):Prop:=RR sh/\RR n/\∀ i:Nat,i<n ->RR (f i)
def RI:Prop:=RR IntKind.i64/\RR n
theorem abv.{u} {α:Sort u} (a:α):RR a↔True:=⟨λ_=>trivial,λ_=>rfl⟩
theorem aa8 (n:Nat) (f:Nat ->AV):RW sh n f↔True:=⟨λ_=>trivial,λ_=>eq⟩
theorem ae7:RI n↔True:=⟨λ_=>trivial,λ_=>eq⟩
theorem SB:type_of% @ym/\type_of% @yx/\type_of% @wj.{0}/\type_of% @wj.{1}/\type_of% @j7/\type_of% @xk/\type_of% @xa/\type_of% @xg/\type_of% @y5/\type_of% @xj/\type_of% @xd/\type_of% @xh/\type_of% @yc/\type_of% @imp_self/\type_of% @xo.{0}/\type_of% @xt.{0}/\type_of% @ja.{0}/\type_of% @jw.{0}/\type_of% @ne_eq.{1}/\type_of% @yk/\type_of% @zdz/\type_of% @ze0/\type_of% @ze1/\type_of% @Int.ofNat_lt/\type_of% @Int.ofNat_le/\type_of% @Int.natCast_nonneg/\type_of% @xm/\type_of% @Nat.one_mul/\type_of% @false_implies/\type_of% @aa6/\type_of% @Int.toNat_zero/\type_of% @Int.toNat_one/\type_of% @sI/\type_of% @s2/\type_of% @s3/\type_of% @s4/\type_of% @s5/\type_of% @s9/\type_of% @sT/\type_of% @sS/\type_of% @rI/\type_of% @rS/\type_of% @rIn/\type_of% @rV/\type_of% @rF/\type_of% @rSt/\type_of% @rT/\type_of% @rQ/\type_of% @rE/\type_of% @rB/\type_of% @fI/\type_of% @fV/\type_of% @fF/\type_of% @fS/\type_of% @fP/\type_of% @fA/\type_of% @fT/\type_of% @fM/\type_of% @fE/\type_of% @fB/\type_of% @fSt/\type_of% @fEv/\type_of% @ziq/\type_of% @znw/\type_of% @znx/\type_of% @zny/\type_of% @znz/\type_of% @mX/\type_of% @Ao/\type_of% @zzx/\type_of% @EL/\type_of% @zkj/\type_of% @Fk/\type_of% @zzy/\type_of% @zv4/\type_of% @sK/\type_of% @zkk/\type_of% @V9/\type_of% @JL/\type_of% @zo0/\type_of% @Int.sub_zero/\type_of% @xy/\type_of% @abv.{1}/\type_of% @aa8/\type_of% @ae7:=
 ⟨@ym,@yx,@wj.{0},@wj.{1},@j7,@xk,@xa,@xg,@y5,@xj,@xd,@xh,@yc,@imp_self,@xo.{0},@xt.{0},@ja.{0},@jw.{0},@ne_eq.{1},@yk,@zdz,@ze0,@ze1,@Int.ofNat_lt,@Int.ofNat_le,@Int.natCast_nonneg,@xm,@Nat.one_mul,@false_implies,@aa6,@Int.toNat_zero,@Int.toNat_one,@sI,@s2,@s3,@s4,@s5,@s9,@sT,@sS,@rI,@rS,@rIn,@rV,@rF,@rSt,@rT,@rQ,@rE,@rB,@fI,@fV,@fF,@fS,@fP,@fA,@fT,@fM,@fE,@fB,@fSt,@fEv,@ziq,@znw,@znx,@zny,@znz,@mX,@Ao,@zzx,@EL,@zkj,@Fk,@zzy,@zv4,@sK,@zkk,@V9,@JL,@zo0,@Int.sub_zero,@xy,@abv.{1},@aa8,@ae7⟩
def LT (x:AV):Prop:=LS x x
theorem abp (x:AV):LT x↔True:=ep _
theorem adv (a b:List Int):LS (ab a) (ab b)↔a.length=b.length/\∀ i:Nat,i<a.length ->co (a.getD i 0)=co (b.getD i 0):=gl (am)
theorem acf (a b:List (List UInt8)):LS (br a) (br b)↔a.length=b.length/\∀ i:Nat,i<a.length ->AV.str (a.getD i [])=AV.str (b.getD i []):=gl (am)
theorem zv5 (a b:List aP):LS (iX a) (iX b)↔a.length=b.length/\∀ i:Nat,i<a.length ->encI (a.getD i dp)=encI (b.getD i dp):=gl (am)
theorem abm (a b:List jV):LS (fK a) (fK b)↔a.length=b.length/\∀ i:Nat,i<a.length ->lM (a.getD i eR)=lM (b.getD i eR):=gl (am)
theorem abd (a b:List cX):LS (dv a) (dv b)↔a.length=b.length/\∀ i:Nat,i<a.length ->ez (a.getD i bu)=ez (b.getD i bu):=gl (am)
theorem zv6 (a b:List dW):LS (nX a) (nX b)↔a.length=b.length/\∀ i:Nat,i<a.length ->encS (a.getD i dL)=encS (b.getD i dL):=gl (am)
theorem ada (a b:List aF):LS (aK a) (aK b)↔a.length=b.length/\∀ i:Nat,i<a.length ->aq (a.getD i au)=aq (b.getD i au):=gl (am)
theorem z141 (a b:List (List Int)):LS (aJ a) (aJ b)↔a.length=b.length/\∀ i:Nat,i<a.length ->ab (a.getD i [])=ab (b.getD i []):=gl (am)
theorem adx (a b:List cZ):LS (ck a) (ck b)↔a.length=b.length/\∀ i:Nat,i<a.length ->de (a.getD i cw)=de (b.getD i cw):=gl (am)
theorem z143 (a b:List cg):LS (bc a) (bc b)↔a.length=b.length/\∀ i:Nat,i<a.length ->aB (a.getD i aD)=aB (b.getD i aD):=gl (am)
theorem aat (a b:Mem):LS (ao a) (ao b)↔(a.vars.length=b.vars.length/\∀ i:Nat,i<a.vars.length ->co (a.vars.getD i 0)=co (b.vars.getD i 0))/\(a.ae.length=b.ae.length/\∀ i:Nat,i<a.ae.length ->co (a.ae.getD i 0)=co (b.ae.getD i 0))/\(a.aa.length=b.aa.length/\∀ i:Nat,i<a.aa.length ->ab (a.aa.getD i [])=ab (b.aa.getD i []))/\a.sig.length=b.sig.length/\∀ i:Nat,i<a.sig.length ->co (a.sig.getD i 0)=co (b.sig.getD i 0):=gl (am)
theorem z145 (a b:aF):LS (aq a) (aq b)↔a.id=b.id/\a.fn=b.fn/\a.pc=b.pc/\(∀ i:Nat,co (a.az.getD i 0)=co (b.az.getD i 0))/\a.steps=b.steps/\a.kids=b.kids/\a.phase=b.phase/\a.status=b.status/\a.fault=b.fault/\a.held.length=b.held.length/\∀ i:Nat,i<a.held.length ->co (a.held.getD i 0)=co (b.held.getD i 0):=gl (am)
theorem z146 (a b:aP):LS (encI a) (encI b)↔a.op=b.op/\a.a=b.a/\a.b=b.b/\a.c=b.c/\a.obj=b.obj/\a.n=b.n/\a.fn=b.fn/\a.ord=b.ord:=gl (am)
theorem zv7 (a b:Ev):LS (bP a) (bP b)↔a.aG=b.aG/\a.idx=b.idx/\a.kind=b.kind/\a.obj=b.obj/\a.mutex=b.mutex/\a.entry=b.entry/\a.ord=b.ord/\a.read=b.read/\a.wrote=b.wrote:=gl (am)
theorem abi (a b:cg):LS (aB a) (aB b)↔a.aC=b.aC/\a.first=b.first/\a.entries.length=b.entries.length/\∀ i:Nat,i<a.entries.length ->de (a.entries.getD i cw)=de (b.entries.getD i cw):=gl (am)
theorem z148 (a b:aj):LS (ak a) (ak b)↔(a.vars.length=b.vars.length/\∀ i:Nat,i<a.vars.length ->lM (a.vars.getD i eR)=lM (b.vars.getD i eR))/\(a.aS.length=b.aS.length/\∀ i:Nat,i<a.aS.length ->AV.str (a.aS.getD i [])=AV.str (b.aS.getD i []))/\(a.conds.length=b.conds.length/\∀ i:Nat,i<a.conds.length ->AV.str (a.conds.getD i [])=AV.str (b.conds.getD i []))/\(a.al.length=b.al.length/\∀ i:Nat,i<a.al.length ->ez (a.al.getD i bu)=ez (b.al.getD i bu))/\a.af.length=b.af.length/\∀ i:Nat,i<a.af.length ->encS (a.af.getD i dL)=encS (b.af.getD i dL):=gl (am)
theorem zv8 (a b:ah):LS (ze a) (ze b)↔(a.af.length=b.af.length/\∀ i:Nat,i<a.af.length ->aq (a.af.getD i au)=aq (b.af.getD i au))/\((a.mem.vars.length=b.mem.vars.length/\∀ i:Nat,i<a.mem.vars.length ->co (a.mem.vars.getD i 0)=co (b.mem.vars.getD i 0))/\(a.mem.ae.length=b.mem.ae.length/\∀ i:Nat,i<a.mem.ae.length ->co (a.mem.ae.getD i 0)=co (b.mem.ae.getD i 0))/\(a.mem.aa.length=b.mem.aa.length/\∀ i:Nat,i<a.mem.aa.length ->ab (a.mem.aa.getD i [])=ab (b.mem.aa.getD i []))/\a.mem.sig.length=b.mem.sig.length/\∀ i:Nat,i<a.mem.sig.length ->co (a.mem.sig.getD i 0)=co (b.mem.sig.getD i 0))/\a.ag.length=b.ag.length/\∀ i:Nat,i<a.ag.length ->aB (a.ag.getD i aD)=aB (b.ag.getD i aD):=gl (am)
theorem SX:type_of% @adv/\type_of% @acf/\type_of% @zv5/\type_of% @abm/\type_of% @abd/\type_of% @zv6/\type_of% @ada/\type_of% @z141/\type_of% @adx/\type_of% @z143/\type_of% @aat/\type_of% @z145/\type_of% @z146/\type_of% @zv7/\type_of% @abi/\type_of% @z148/\type_of% @zv8/\type_of% @abp:=
 ⟨@adv,@acf,@zv5,@abm,@abd,@zv6,@ada,@z141,@adx,@z143,@aat,@z145,@z146,@zv7,@abi,@z148,@zv8,@abp⟩
theorem zE {h e:List (Nat×aw)} {x:AV}:AV.le h e x x:=ik _ _ _ _ (le_refl _ _ x)
theorem ack {C:bt} (f:C.P=Tryz.prog) (e:C.T=TT):cf C:=by
 cases C;cases f;cases e;exact mC (am)
theorem Kn (V:bj) {G:List (Nat×AV)} {f:FuncId} {fn:Func} {args:List AV} {r:AV} (s:Tryz.prog.funcs[f]? =some fn) (N:Prop) (h:N) (e:zL V fn args r=N:=by kernel_rfl)
 (j : ((fn.name == "runtime.NumGoroutine") || fn.body.isNone || !Nat.beq fn.ntmps V.C.ntmps || !Nat.ble args.length V.C.ntmps) = false := by kernel_rfl)
 (i:V.C.P=Tryz.prog:=by exact rfl) (u:V.C.T=TT:=by exact rfl) (k:V.C.G=G:=by exact rfl) (y:V.CC=aL Tryz.prog G:=by exact rfl)
 (x:∀ f m r o,V.C.r9 f m r o ->cd Tryz.prog G f m r o:=by first |exact λ_ _ _ _ h=>False.elim h |exact λ_ _ _ _ h=>h):aL Tryz.prog G f args r:=by
 have :=aL.of (V:=V) (i ▸ s) j (ack i u) (by rw[y,i,k]) (e ▸ h) (by rw[i,k];exact x)
 grind
theorem pK (V:bj) {G:List (Nat×AV)} {f:FuncId} {fn:Func} {args:List AV} {r:AV} {i:List aw} (s:Tryz.prog.funcs[f]? =some fn) (N:Prop) (h:N) (e:z6v V fn args r i=N:=by kernel_rfl)
 (k : ((fn.name == "runtime.NumGoroutine") || fn.body.isNone || !Nat.beq fn.ntmps V.C.ntmps || !Nat.ble args.length V.C.ntmps) = false := by kernel_rfl)
 (j:V.C.P=Tryz.prog:=by exact rfl) (u:V.C.T=TT:=by exact rfl) (m:V.C.G=G:=by exact rfl) (y:V.CC=aL Tryz.prog G:=by exact rfl)
 (x:∀ f o r i,V.C.r9 f o r i ->cd Tryz.prog G f o r i:=by first |exact λ_ _ _ _ h=>False.elim h |exact λ_ _ _ _ h=>h):cd Tryz.prog G f args r i:=by
 have :=cd.of (V:=V) (j ▸ s) k (ack j u) (by rw[y,j,m]) (e ▸ h) (by rw[j,m];exact x)
 grind
theorem zkl (i:Int) (n:Nat):ai i n↔0<=i/\i<(n:Int):=Iff.rfl
theorem SZ:type_of% @SB/\type_of% @SX/\type_of% @zkl:=⟨SB,SX,zkl⟩
def iv (n:Nat) (S:Nat ->St):Option Inv:=some {ι:=Nat,S:=S,μ:=λi=>n - i,ok:=λi=>i<=n}
def iw (n:Nat) (S:Nat ->St) (P:Nat ->Prop):Option Inv:=some {ι:=Nat,S:=S,μ:=λi=>n - i,ok:=λi=>i<=n/\P i}
abbrev KN (f:FuncId) (a:List AV) (r:AV):Prop:=aL Tryz.prog GG f a r
abbrev KF (f:FuncId) (a:List AV) (r:AV) (c:List aw):Prop:=cd Tryz.prog GG f a r c
def wr:Int:=(n+2147483648) % 4294967296 - 2147483648
def kY (b:Bool):Int:=bif b then 1 else 0
def low:Nat:=(n % 4294967296).toNat
def bop (g:Nat ->Nat ->Nat) (x y:Int):Int:=wr (g (low x) (low y):Nat)
def app (f a b:Int):Int×Int:=
 if f=1 then(wr (wr a+wr b),0)
 else if f=2 then(wr (wr a - wr b),0)
 else if f=3 then(wr (wr a*wr b),0)
 else if f=4 then(bop (· &&& ·) a b,0)
 else if f=5 then(bop (· ||| ·) a b,0)
 else if f=6 then(bop (· ^^^ ·) a b,0)
 else if f=7 then(kY (wr a==wr b),0)
 else if f=8 then(kY (wr a !=wr b),0)
 else if f=9 then(kY (decide (wr a<wr b)),0)
 else if f=10 then(kY (decide (wr a<=wr b)),0)
 else(0,8)
def jT (r:Nat ->Int) (X Y:Nat):Nat ->Int
 |0=>0
 |n+1=>jT r X Y n+2 ^ n*r (2*(X/2 ^ n % 2)+Y/2 ^ n % 2)
def spV:FuncId ->List AV ->Option AV
 |204,[.int _ n] |221,[.int _ n]=>some (co (wr n))
 |241,[.bool b] |223,[.bool b]=>some (co (kY b))
 |176,[.int _ f, .int _ a, .int _ b] |136,[.int _ f, .int _ a, .int _ b]=>some (.ax [co (app f a b).1,co (app f a b).2])
 |222,[.int _ x, .int _ y, .mc _ (.arr _ r)]=>some (co (wr (jT (λi=>dI (r i)) (low x) (low y) 32)))
 |266,[.int _ f] |256,[.int _ f]=>some (.str (bw f))
 |_,_=>none
def vV (n:Nat) (inv:Nat ->Option Inv):bj:={C:=fj n,CC:=aL Tryz.prog GG,bb:=λ_ _=>spV,inv:=inv}
def zkm (x y:Int) (r:Nat ->Int) (k:Nat):Option Inv:=match Nat.beq k 8 with
 |true=>iv 32 λi=>⟨[(0,co ((low x/2 ^ i:Nat):Int)),(1,co ((low y/2 ^ i:Nat):Int)),(5, .ptr 5 []),(7,co (jT r (low x) (low y) i)),(8,co (2 ^ i)),(9,co i)],[(5, .cell 227 (.arr 4 .leaf) (.arr 4 λi=> co (r i)))]⟩
 |false=>none
end
end Go.Proofs.S25
