import Derived.Test.YtgcpdfihjmmggaaGreatDoorXh
import Derived.Test.YtgcpdfihjmmggaaGreatDoorProg
import Derived.KernelRfl
namespace Go.AV
open Go.RowKit
mutual
def jQ (ks:List Nat) (h:List (Nat×ar)):AV ->Option (AV×List Prop)
 | .own b n=>match oS b ks with
  |true=>some (.own b n,[])
  |false=>gC h (.own b n)
 | .ptr b p=>match oS b ks with
  |true=>some (.ptr b p,[])
  |false=>gC h (.ptr b p)
 | .bq b i p=>match oS b ks with
  |true=>some (.bq b i p,[])
  |false=>gC h (.bq b i p)
 | .agg l=>match XF ks h l with |some (m,ps)=>some (.agg m,ps) |none=>none
 | .mc sh x=>match jQ ks h x with |some (y,ps)=>some (.mc sh y,ps) |none=>none
 | .av l=>match XF ks h l with |some (m,ps)=>some (.av m,ps) |none=>none
 |x=>gC h x
def XF (ks:List Nat) (h:List (Nat×ar)):List AV ->Option (List AV×List Prop)
 | []=>some ([],[])
 |x::l=>match jQ ks h x,XF ks h l with
  |some (y,ps),some (m,qs)=>some (y::m,ps++qs)
  |_,_=>none
end
mutual
def sr:AV ->AV ->List (Nat×Nat)
 | .own b _, .own i _=>[(i,b)]
 | .agg l, .agg m=>znv l m
 | .av l, .av m=>znv l m
 | .mc _ x, .mc _ y=>sr x y
 |_,_=>[]
def znv:List AV ->List AV ->List (Nat×Nat)
 |x::l,y::m=>sr x y++znv l m
 |_,_=>[]
end
def bn (prs:List (Nat×Nat)) (i:Nat):Nat:=match get prs i with |some b=>b |none=>1048576+i
def bt (prs:List (Nat×Nat)):Nat ->List ar ->List (Nat×ar)
 |_,[]=>[]
 |i,c::cs=>(bn prs i,c)::bt prs (i+1) cs
def zcf:List ar ->Bool
 | []=>true
 |c::cs=>c.isRow&&zcf cs
def nv:List (Nat×ar) ->List Nat
 | []=>[]
 | (k,_)::l=>k::nv l
def zv3 (C:bu) (st:St) (rs:List ResultVar) (r:AV) (cs:List ar):Option (List Prop×St×St):=
 match ug C st rs with
 |some l=>match Ve (nv (bt (sr (nb l) r) 0 cs))&&(tC (below cs.length) r&&zcf cs),jQ (nv (bt (sr (nb l) r) 0 cs)) (nG (nv (bt (sr (nb l) r) 0 cs)) st.heap) (nb l)with
  |true,some (m,ps)=>some (ps,⟨[(0,m)],iK (nv (bt (sr (nb l) r) 0 cs)) st.heap⟩,⟨[(0,r.sub (bn (sr (nb l) r)))],bt (sr (nb l) r) 0 cs⟩)
  |_,_=>none
 |none=>none
def zin (V:bm) (fn:Func) (r:AV) (cs:List ar) (e:Exit) (st:St):Prop:=
 match e with
 | .ret | .normal=>match zv3 V.C st fn.results.toList r cs with
  |some (ps,s1,s2)=>ap0 ps (St.kY s1 s2)
  |none=>False
 |_=>False
def z6v (V:bm) (fn:Func) (args:List AV) (r:AV) (cs:List ar):Prop:=
 match fn.body with
 |some c=>vc V c ⟨z87 0 args,[]⟩ (zin V fn r cs)
 |none=>False
section
variable {C:bu} {W0:Entry} {F0:Nat ->Prop} {st st':St} {a:Act} {w:World} {F:Nat ->Prop} {φ:Nat ->Place}
mutual
theorem zf7 {ks:List Nat} {st:St} (h:Rel C W0 F0 st a w F φ):∀ (x y:AV) (ps:List Prop),jQ ks st.heap x=some (y,ps) ->(∀ p∈ps,p) ->
 (∀ v,aG w F φ v x ->aG w (dg st F φ) φ v y)/\(∀ sh j v,aG w F φ v (z6 sh x j) ->aG w (dg st F φ) φ v (z6 sh y j))
 | .own b n,y,ps,hf,hps=>by
  simp[jQ]at hf
  split at hf
  . cases hf
    exact⟨λv hv=>hv.keep (λ_ _=>rfl) (λk hk=> .inl hk) λ_ _=>rfl,λsh j v hv=>hv.keep (λ_ _=>rfl) (λk hk=> .inl hk) λ_ _=>rfl⟩
  . obtain⟨h1,h2⟩:=sJ h _ _ _ hf hps
    exact⟨λv hv=> .stat (h1 v hv),λsh j v hv=> .stat (h2 sh j v hv)⟩
 | .ptr b p,y,ps,hf,hps=>by
  simp[jQ]at hf
  split at hf
  . cases hf
    exact⟨λv hv=>hv.keep (λ_ _=>rfl) (λk hk=> .inl hk) λ_ _=>rfl,λsh j v hv=>hv.keep (λ_ _=>rfl) (λk hk=> .inl hk) λ_ _=>rfl⟩
  . obtain⟨h1,h2⟩:=sJ h _ _ _ hf hps
    exact⟨λv hv=> .stat (h1 v hv),λsh j v hv=> .stat (h2 sh j v hv)⟩
 | .bq b i p,y,ps,hf,hps=>by
  simp[jQ]at hf
  split at hf
  . cases hf
    exact⟨λv hv=>hv.keep (λ_ _=>rfl) (λk hk=> .inl hk) λ_ _=>rfl,λsh j v hv=>hv.keep (λ_ _=>rfl) (λk hk=> .inl hk) λ_ _=>rfl⟩
  . obtain⟨h1,h2⟩:=sJ h _ _ _ hf hps
    exact⟨λv hv=> .stat (h1 v hv),λsh j v hv=> .stat (h2 sh j v hv)⟩
 | .agg l,y,ps,hf,hps=>by
  simp[jQ]at hf
  split at hf
  case h_2=>cases hf
  rename_i m qs hm
  cases hf
  refine⟨λv hv=>(by cases hv with |stat hv=>cases hv),λs j v hv=>?_⟩
  cases s with
  |leaf=>simp[z6,eC,AV.b8]at hv ⊢;exact .stat (.any _ (hv.one rfl))
  |agg ss=>simp only[z6]at hv ⊢;exact(zcg h l m ps hm hps).2 ss j v hv
  |arr n s=>simp only[z6]at hv ⊢;exact .stat (.any _ (hv.one rfl))
 | .mc sh x,y,ps,hf,hps=>by
  simp only[jQ]at hf
  split at hf
  case h_2=>cases hf
  rename_i z qs hz
  cases hf
  obtain⟨_,k2⟩:=zf7 h x z ps hz hps
  refine⟨λv hv=>?_,λs' j v hv=>?_⟩
  . obtain⟨cs,rfl,hsz,hr⟩:=hv.aos
    exact .mc cs sh z hsz λj hj=>k2 sh j _ (hr j hj)
  . cases s' with
    |leaf=>simp only[z6,eC,AV.b8]at hv ⊢;exact .stat (.any _ (hv.one rfl))
    |agg ss=>simp only[z6]at hv ⊢;exact .stat (.any _ (hv.one rfl))
    |arr m s=>simp only[z6]at hv ⊢;exact .stat (.any _ (hv.one rfl))
 | .av l,y,ps,hf,hps=>by
  simp only[jQ]at hf
  split at hf
  case h_2=>cases hf
  rename_i m qs hm
  cases hf
  obtain⟨⟨k0,k1⟩,k2⟩:=zcg h l m ps hm hps
  refine⟨λv hv=>?_,λs j v hv=>?_⟩
  . cases hv with
    |stat hv=>cases hv
    |av vs _ h1 h2=>exact .av vs m (by omega) λj hj=>k1 j hj _ (h2 j (by omega))
  . cases s with
    |leaf=>simp only[z6,eC,AV.b8]at hv ⊢;exact .stat (.any _ (hv.one rfl))
    |agg ss=>simp only[z6]at hv ⊢;exact .stat (.any _ (hv.one rfl))
    |arr n s=>simp only[z6]at hv ⊢;exact .stat (.any _ (hv.one rfl))
 | .any,y,ps,hf,hps | .int _ _,y,ps,hf,hps | .bool _,y,ps,hf,hps | .str _,y,ps,hf,hps | .ax,y,ps,hf,hps | .dj,y,ps,hf,hps | .seq _ _ _,y,ps,hf,hps | .bD _ _ _,y,ps,hf,hps
 | .bJ _ _ _ _,y,ps,hf,hps | .cz _ _ _ _,y,ps,hf,hps | .jS _,y,ps,hf,hps | .bo _ _,y,ps,hf,hps | .arr _ _,y,ps,hf,hps | .st _,y,ps,hf,hps | .c8 _ _,y,ps,hf,hps | .when _ _,y,ps,hf,hps=>by
  simp only[jQ]at hf
  obtain⟨h1,h2⟩:=sJ h _ _ _ hf hps
  exact⟨λv hv=> .stat (h1 v hv),λsh j v hv=> .stat (h2 sh j v hv)⟩
theorem zcg {ks:List Nat} {st:St} (h:Rel C W0 F0 st a w F φ):∀ (l m:List AV) (ps:List Prop),XF ks st.heap l=some (m,ps) ->(∀ p∈ps,p) ->
 (l.length=m.length/\∀ j,j<m.length ->∀ v,aG w F φ v (l.getD j .any) ->aG w (dg st F φ) φ v (m.getD j .any))/\
 ∀ ss j v,aG w F φ v (zh ss l j) ->aG w (dg st F φ) φ v (zh ss m j)
 | [],m,ps,hf,_=>by
  simp[XF]at hf;obtain⟨rfl,rfl⟩:=hf
  refine⟨⟨rfl,λj hj=>by simp at hj⟩,λss j v hv=>?_⟩
  cases ss<;>simp only[zh]at hv ⊢ <;>exact .stat (.any _ (hv.one rfl))
 |x::l,m,ps,hf,hps=>by
  simp only[XF]at hf
  split at hf
  case h_2=>cases hf
  rename_i y ps1 m' ps2 h1 h2
  cases hf
  obtain⟨⟨l1,l2⟩,l3⟩:=zcg h l m' ps2 h2 λp hp=>hps p (by simp[hp])
  obtain⟨k1,k2⟩:=zf7 h x y ps1 h1 λp hp=>hps p (by simp[hp])
  refine⟨⟨by simp[l1],λj hj v hv=>?_⟩,λss j v hv=>?_⟩
  . cases j with
    |zero=>exact k1 v (by simpa using hv)
    |succ j=>simpa using l2 j (by simpa using hj) v (by simpa using hv)
  . cases ss with
    |nil=>simp only[zh]at hv ⊢;exact .stat (.any _ (hv.one rfl))
    |cons s ss=>
     simp only[zh]at hv ⊢
     split
     . rename_i hj;rw[x9 hj]at hv;exact k2 s j v hv
     . rename_i hj;rw[x8 hj]at hv;exact l3 ss _ v hv
end
theorem z77 {prs:List (Nat×Nat)}:∀ (cs:List ar) (i j:Nat) (c:ar),Ve (nv (bt prs i cs))=true ->cs[j]? =some c ->get (bt prs i cs) (bn prs (i+j))=some c/\bn prs (i+j)∈nv (bt prs i cs)
 | [],i,j,c,_,h=>by simp at h
 |d::cs,i,0,c,_,h=>by
  simp at h;subst h
  simp[bt,get,nv]
 |d::cs,i,j+1,c,hn,h=>by
  simp[bt,nv,Ve]at hn
  obtain⟨h1,h2⟩:=z77 cs (i+1) j c hn.2 (by simpa using h)
  rw[show i+1+j=i+(j+1)from by omega]at h1 h2
  have hne:Nat.beq (bn prs i) (bn prs (i+(j+1)))=false:=by
   cases e:Nat.beq (bn prs i) (bn prs (i+(j+1)))with
   |false=>rfl
   |true=>
    rw[xc e,Kv.2 h2]at hn;cases hn.1
  simp[bt,get,nv]
  grind
theorem zch {prs:List (Nat×Nat)}:∀ (cs:List ar) (i j j':Nat),Ve (nv (bt prs i cs))=true ->j<cs.length ->j'<cs.length ->bn prs (i+j)=bn prs (i+j') ->j=j'
 | [],_,_,_,_,h,_,_=>by simp at h
 |d::cs,i,j,j',hn,hj,hj',e=>by
  simp only[bt,nv,Ve,xa,xi]at hn
  have mem:∀ k,k<cs.length ->bn prs (i+(k+1))∈nv (bt prs (i+1) cs):=λk hk=>by
   have :=(z77 cs (i+1) k _ hn.2 (xe hk)).2
   grind
  have ne:∀ k,k<cs.length ->bn prs (i+0)≠bn prs (i+(k+1)):=λk hk e=>by
   rw[wd]at e
   rw[e,Kv.2 (mem k hk)]at hn;cases hn.1
  cases j with
  |zero=>cases j' with
   |zero=>rfl
   |succ j'=>exact absurd e (ne j' (by simpa using hj'))
  |succ j=>cases j' with
   |zero=>exact absurd e.symm (ne j (by simpa using hj))
   |succ j'=>
    have :=zch cs (i+1) j j' hn.2 (by simpa using hj) (by simpa using hj') (by rw[show i+1+j=i+(j+1)from by omega,show i+1+j'=i+(j'+1)from by omega];exact e)
    omega
theorem zci:∀ (cs:List ar) {i:Nat} {c:ar},zcf cs=true ->cs[i]? =some c ->c.isRow=true
 | [],_,_,_,h=>by simp at h
 |d::cs,0,c,hr,h=>by simp[zcf]at hr;simp at h;subst h;exact hr.1
 |d::cs,i+1,c,hr,h=>by simp[zcf]at hr;exact zci cs hr.2 (by simpa using h)
theorem zmr {us:List Value} {l:List AV} (hl:us.length=l.length) (h:∀ j,j<l.length ->aG w F φ (us.getD j undef) (l.getD j .any)):aG w F φ (ZF us) (nb l):=by
 match l,us,hl,h with
 | [],us,hl,h=>
  have :us=[]:=xz (by simpa using hl)
  subst this
  exact .av #[] [] rfl λj hj=>by simp at hj
 | [y],us,hl,h=>
  match us,(hl:us.length=1)with
  | [v],_=>
   show aG w F φ v y
   simp_all
 |y::z::m,us,hl,h=>
  match us,(hl:us.length=m.length+1+1)with
  |v::u::us,hlen=>exact .av _ _ (by simpa using hlen) λj hj=>by simp_all
theorem K6.pU {V:bm} {f:FuncId} {fn:Func} {args:List AV} {r:AV} {cs:List ar} (hf:V.C.P.funcs[f]? =some fn) (hn:fn.ntmps=V.C.ntmps) (hl:args.length<=V.C.ntmps) (hT:gn V.C) (hCC:dW V.C V.CC) (h:z6v V fn args r cs):
 K6 V.C.P V.C.G f args r cs:=by
 intro w F vs hro hglob hsz hr
 unfold z6v at h
 split at h
 case h_2=>exact h.elim
 rename_i c hb
 refine calls_of_wp hf hb (wp_mono (YL hT hCC c _ _ _ _ _ _ h (Rel.start hn hl hro hglob hsz hr)) ?_)
 rintro e a' w' ⟨st,F',φ',hR,hq⟩
 have fin:zin V fn r cs .ret st ->bodyPost V.C.P fn (λen w'=>∃ v F' φ',en= .returned v/\Below w.heap.size w w'/\(∀ k,F k ->F' k)/\(∀ k,F' k ->F k∨w.heap.size<=k)/\(∀ k,F' k ->k<w'.heap.size)/\aG w' F' φ' v r/\
  (∀ i c,cs[i]? =some c ->z24 w' F' φ' (λk=>w.heap.size<=k) i c)/\∀ i i' g,i<cs.length ->i'<cs.length ->(φ' i).bV=some g ->(φ' i').bV=some g ->i=i') .ret a' w':=by
  intro hq
  unfold zin at hq
  dsimp only at hq
  split at hq
  case h_2=>exact hq.elim
  rename_i ps s1 s2 hret
  unfold zv3 at hret
  split at hret
  case h_2=>cases hret
  rename_i l hres
  split at hret
  case h_2=>cases hret
  rename_i m ps' hgood hfz
  cases hret
  simp only[xa]at hgood
  obtain⟨hnd,hgood,hrows⟩:=hgood
  obtain⟨hps,hle⟩:=pM hq
  obtain⟨us,h1,h2,h3⟩:=z76 hR hT _ _ hres
  have hv:=zmr h2 h3
  generalize hks:nv (bt (sr (nb l) r) 0 cs)=ks at *
  generalize hpr:sr (nb l) r=prs at *
  have hR2:Rel V.C (.of w) F {st with heap:=nG ks st.heap} a' w' F' φ':=
   ⟨hR.env,λb c hc=>hR.heap b c (qF hc).1,λb b' c c' g h1 h2=>hR.inj b b' c c' g (qF h1).1 (qF h2).1,hR.ro,hR.base,hR.sub,hR.new,hR.eR,hR.iC,hR.aoi,λb p hp=>by cases hp⟩
  have hv2:=(zf7 (ks:=ks) hR2 _ _ _ hfz hps).1 _ hv
  have hlent:∀ k,dg {st with heap:=nG ks st.heap} F' φ' k ->F k∨w.heap.size<=k:=by
   rintro k (hk | ⟨b,c,hb,hk⟩)
   . exact(hR.new k hk).imp_right λh=>h.resolve_right λhf=>hf
   . exact .inr (((hR2.heap b c hb).lt hk).2.2.resolve_right λhf=>hf)
  have hlt:∀ k,dg {st with heap:=nG ks st.heap} F' φ' k ->k<w'.heap.size:=by
   rintro k (hk | ⟨b,c,hb,hk⟩)
   . exact hR.ro k hk
   . exact((hR2.heap b c hb).lt hk).1
  have hR3:Rel {V.C with ntmps:=1} (.of w) F ⟨[(0,m)],iK ks st.heap⟩ {tmps:=#[ZF us],defers:=[]} w' (dg {st with heap:=nG ks st.heap} F' φ') φ':=by
   refine⟨λs x hs=>?_,λb c hc=>?_,λb b' c c' g h1 h2=>hR.inj b b' c c' g (Mt h1).1 (Mt h2).1,hlt,hR.base,λk hk=> .inl (hR.sub k hk),λk hk=>(hlent k hk).imp_right .inl,rfl,rfl,λg x hg=>(hR.aoi g x hg).keep (λ_ _=>rfl) λ_ hk=> .inl hk,λb p hp=>by cases hp⟩
   . simp only[get]at hs
     split at hs
     . rename_i e
       cases hs
       have :=xc e
       subst this
       exact⟨_,rfl,hv2⟩
     . cases hs
   . obtain⟨k1,k2⟩:=Mt hc
     have hb:=hR.heap b c k1
     refine hb.keep (λ_ _=>rfl) (λ_ hk=> .inl hk) (λg hg=>⟨rfl, ?_⟩) rfl λ_ _=>rfl
     rintro(h5 | ⟨b',c',h5,h6⟩)
     . exact(hb.lt hg).2.1 h5
     . obtain⟨h7,h8⟩:=qF h5
       exact h8 (hR.inj b' b c' c g h7 k1 h6 hg ▸ k2)
  obtain⟨φ4,hR4⟩:=hR3.weaken hle
  obtain⟨v,hv4,hrep⟩:=hR4.env 0 (r.sub (bn prs)) rfl
  simp at hv4
  subst hv4
  refine⟨hR.eR,_,z8k h1,_,_,λi=>φ4 (bn prs i),rfl,hR.base.toBelow,λk hk=> .inl (hR.sub k hk),hlent,hlt,zzq (m:=below cs.length) (n:=bn prs) (φ2:=φ4) (λ_ _=>rfl) hgood hrep,λi c hc=>?_,λi i' g hi hi' e e'=>?_⟩
  . have hg:=(z77 cs 0 i c (by rw[hks];exact hnd) hc).1
    rw[xw]at hg
    have hB:=(hR4.heap _ c hg).base (base':=λk=>w.heap.size<=k) λk hk=>hk.resolve_right λhf=>hf
    have hrow:=zci cs hrows hc
    cases c with
    |cell tc sh x=>cases hrow
    |row ty sh n f=>exact hB
  . have k1:=(z77 cs 0 i _ (by rw[hks];exact hnd) (xe hi)).1
    have k2:=(z77 cs 0 i' _ (by rw[hks];exact hnd) (xe hi')).1
    rw[xw]at k1 k2
    have :=hR4.inj _ _ _ _ g k1 k2 e e'
    have :=zch cs 0 i i' (prs:=prs) (by rw[hks];exact hnd) hi hi' (by rw[xw,xw];exact this)
    exact this
 cases e with
 |normal=>exact fin hq
 |ret=>exact fin hq
 |_=>exact hq.elim
end
theorem jH.of {P : Program} {f : FuncId} {fn : Func} (hf : P.funcs[f]? = some fn) (hn : (fn.name == "runtime.NumGoroutine") = false) (hb : fn.body.isNone = false) : jH P f := by
 intro args w
 simp only[callFunc,Sem.run_bind,run_program,Result.andThen_ok,hf,hn,hb]
 rfl
theorem zh0:∀ s:Shape,s.same s=true:=by
 intro s
 induction s using Shape.rec (motive_2:=λl=>Shape.jW l l=true)with
 |leaf=>rfl
 |agg l ih=>exact ih
 |arr n s ih=>simp[Shape.same,ih]
 |nil=>rfl
 |cons s l h1 h2=>simp[Shape.jW,h1,h2]
mutual
theorem le_refl (h h':List (Nat×ar)):∀ x:AV,(AV.wz h h' x x).P
 | .agg l | .av l=>by simp only[AV.wz];exact zkh h h' l
 | .mc sh x=>by simp[AV.wz,Gt.aop,Gt.ra];exact⟨zh0 sh,le_refl h h' x⟩
 | .int _ _ | .own _ _ | .ptr _ _ | .ax | .arr _ _=>by simp[AV.wz,Gt.aop,Gt.ra,Gt.P,zil]
 | .seq _ _ _=>by simp[AV.wz,Gt.aop,Gt.ra,Gt.P,zh0]
 | .bD _ _ _ | .cz _ _ _ _ | .bool _ | .str _ | .any | .dj | .bo _ _ | .bq _ _ _ | .c8 _ _ | .st _ | .when _ _ | .jS _ | .bJ _ _ _ _=>by simp[AV.wz,Gt.P,Gt.ra,AV.le,AV.b8]
theorem zkh (h h':List (Nat×ar)):∀ l:List AV,(AV.lI h h' l l).P
 | []=>trivial
 |x::l=>by simp[AV.lI,Gt.aop];exact⟨le_refl h h' x,zkh h h' l⟩
end
def LS (x y:AV):Prop:=(AV.wz [] [] x y).P
theorem iL (x:AV):LS x x↔True:=⟨λ_=>trivial,λ_=>le_refl _ _ x⟩
theorem fp {x y:AV} (h:y=x):LS x y:=by subst h;exact le_refl _ _ _
def eS (P:Program) (G:List (Nat×AV)) (f:FuncId) (args:List AV) (r:AV):Prop:=(jH P f/\rm P G f args r)∨GJ P f args r
def c6 (P:Program) (G:List (Nat×AV)) (f:FuncId) (args:List AV) (r:AV) (cs:List ar):Prop:=jH P f/\K6 P G f args r cs
theorem z9a (C:bu) (hF:∀ f ga r cs,C.nU f ga r cs ->c6 C.P C.G f ga r cs):dW C (eS C.P C.G):=⟨λ_ _ _ h=>h,hF⟩
theorem eS.of {V : bm} {f : FuncId} {fn : Func} {args : List AV} {r : AV} (hf : V.C.P.funcs[f]? = some fn) (hok : ((fn.name == "runtime.NumGoroutine") || fn.body.isNone || !Nat.beq fn.ntmps V.C.ntmps || !Nat.ble args.length V.C.ntmps) = false) (hT : gn V.C) (hCC : V.CC = eS V.C.P V.C.G) (h : tm V fn args r)
 (hF:∀ f ga r cs,V.C.nU f ga r cs ->c6 V.C.P V.C.G f ga r cs:=by first |exact λ_ _ _ _ h=>False.elim h |exact λ_ _ _ _ h=>h):
 eS V.C.P V.C.G f args r:=by
 simp only[xg,y8]at hok
 obtain⟨⟨⟨h1,h2⟩,h3⟩,h4⟩:=hok
 exact .inl ⟨jH.of hf h1 h2,rm.pU hf (xc h3) (wo h4) hT (by rw[hCC];exact z9a V.C hF) h⟩
theorem c6.of {V : bm} {f : FuncId} {fn : Func} {args : List AV} {r : AV} {cs : List ar} (hf : V.C.P.funcs[f]? = some fn) (hok : ((fn.name == "runtime.NumGoroutine") || fn.body.isNone || !Nat.beq fn.ntmps V.C.ntmps || !Nat.ble args.length V.C.ntmps) = false) (hT : gn V.C) (hCC : V.CC = eS V.C.P V.C.G) (h : z6v V fn args r cs)
 (hF:∀ f ga r cs,V.C.nU f ga r cs ->c6 V.C.P V.C.G f ga r cs:=by first |exact λ_ _ _ _ h=>False.elim h |exact λ_ _ _ _ h=>h):
 c6 V.C.P V.C.G f args r cs:=by
 simp only[xg,y8]at hok
 obtain⟨⟨⟨h1,h2⟩,h3⟩,h4⟩:=hok
 exact⟨jH.of hf h1 h2,K6.pU hf (xc h3) (wo h4) hT (by rw[hCC];exact z9a V.C hF) h⟩
theorem eS.weaken {P:Program} {G:List (Nat×AV)} {f:FuncId} {args args':List AV} {r:AV} (h:eS P G f args r) (hs:AV.bB args'=true) (hl:AV.ko [] [] args' args):eS P G f args' r:=by
 obtain⟨l1,l2⟩:=zim hl
 rcases h with⟨h1,h2⟩ |h
 . exact .inl ⟨h1,λw F vs a1 a2 a3 a4=>h2 w F vs a1 a2 (by omega) λj hj=>zf6 (ue hs j) (l2 j (by omega)) (a4 j (by omega))⟩
 . exact .inr λw F vs a3 a4=>h w F vs (by omega) λj hj=>zf6 (ue hs j) (l2 j (by omega)) (a4 j (by omega))
theorem eS.calls {P : Program} {G : List (Nat × AV)} {f : FuncId} {fn : Func} {args : List AV} {r : AV} (h : eS P G f args r) (hf : P.funcs[f]? = some fn) (hok : ((fn.name == "runtime.NumGoroutine") || fn.body.isNone) = false) : rm P G f args r := by
 simp only[xg]at hok
 rcases h with⟨_,h⟩ |h
 . exact h
 . intro w F vs _ _ a3 a4
   obtain⟨v,h1,_⟩:=h w F vs a3 a4
   rw[jH.of hf hok.1 hok.2]at h1
   cases h1
end Go.AV
namespace Go.Proofs.S25
open Go Go.AV
open Go.IntKind renaming i64 -> j6
open Go.AV.Shape (leaf)
noncomputable section
structure aK where
 op:Int
 a:Int
 b:Int
 c:Int
 obj:Int
 n:Int
 fn:Int
 ord:Int
 deriving Inhabited,DecidableEq
structure ic where
 name:List UInt8
 init:Int
 deriving Inhabited,DecidableEq
structure dK where
 name:List UInt8
 code:List aK
 deriving Inhabited,DecidableEq
structure dc where
 fn:Int
 arg:Int
 deriving Inhabited,DecidableEq
structure ai where
 vars:List ic
 aP:List (List UInt8)
 conds:List (List UInt8)
 ef:List dK
 ab:List dc
 deriving Inhabited,DecidableEq
structure aB where
 id:Int
 fn:Int
 pc:Int
 aw:List Int
 steps:Int
 kids:Int
 phase:Int
 status:Int
 fault:Int
 held:List Int
 deriving Inhabited,DecidableEq
structure Mem where
 vars:List Int
 aa:List Int
 a6:List (List Int)
 sig:List Int
 deriving Inhabited,DecidableEq
structure cD where
 var:Int
 val:Int
 deriving Inhabited,DecidableEq
structure bR where
 ay:Int
 first:Int
 entries:List cD
 deriving Inhabited,DecidableEq
structure ag where
 ab:List aB
 mem:Mem
 ae:List bR
 deriving Inhabited,DecidableEq
structure Ev where
 aC:Int
 idx:Int
 kind:Int
 obj:Int
 mutex:Int
 entry:Int
 ord:Int
 read:Int
 wrote:Int
 deriving Inhabited,DecidableEq
variable (e:Ev) (sh:Shape) (s:ag) (m:Mem) (t:aB) (b:bR) (i:aK) (p:ai) (n:Int) (l:List Int) {α:Type}
def dL:aK:=⟨0,0,0,0,0,0,0,0⟩
def dY:ic:=⟨[],0⟩
def bL:dK:=⟨[],[]⟩
def dQ:dc:=⟨0,0⟩
def lX:ai:=⟨[],[],[],[],[]⟩
def ao:aB:=⟨0,0,0,List.replicate 8 0,0,0,0,0,0,[]⟩
def du:Mem:=⟨[],[],[],[]⟩
def cc:cD:=⟨0,0⟩
def az:bR:=⟨0,0,[]⟩
def aN:ag:=⟨[],du,[]⟩
def aW:Ev:=⟨0,0,0,0,0,0,0,0,0⟩
def zy:Shape:= .agg [.leaf, .leaf, .leaf, .leaf, .leaf, .leaf, .leaf, .leaf]
def dz:Shape:= .agg [.leaf, .leaf]
def z7:Shape:= .agg [.leaf, .leaf, .leaf, .leaf, .leaf]
def zk:Shape:= .agg [.leaf, .leaf, .leaf, .arr 8 .leaf, .leaf, .leaf, .leaf, .leaf, .leaf, .leaf]
def zm:Shape:= .agg [.leaf, .leaf, .leaf, .leaf]
def c7:Shape:= .agg [.leaf, .leaf, .leaf]
def aI:Shape:= .agg [.leaf,zm, .leaf]
def bF:Shape:= .agg [.leaf, .leaf, .leaf, .leaf, .leaf, .leaf, .leaf, .leaf, .leaf]
abbrev i64:AV:= .int .i64 n
def a8:AV:= .seq .leaf l.length λi=> .int .i64 (l.getD i 0)
def bj (l:List (List UInt8)):AV:= .seq .leaf l.length λi=> .str (l.getD i [])
def encI:AV:= .agg [.int .i64 i.op, .int .i64 i.a, .int .i64 i.b, .int .i64 i.c, .int .i64 i.obj, .int .i64 i.n, .int .i64 i.fn, .int .i64 i.ord]
def wx (l:List aK):AV:= .seq zy l.length λi=>encI (l.getD i dL)
def kq (v:ic):AV:= .agg [.str v.name, .int .i64 v.init]
def eP (l:List ic):AV:= .seq dz l.length λi=>kq (l.getD i dY)
def fK (f:dK):AV:= .agg [.str f.name,wx f.code]
def cP (l:List dK):AV:= .seq dz l.length λi=>fK (l.getD i bL)
def encS (s:dc):AV:= .agg [.int .i64 s.fn, .int .i64 s.arg]
def mV (l:List dc):AV:= .seq dz l.length λi=>encS (l.getD i dQ)
def ah:AV:= .agg [eP p.vars,bj p.aP,bj p.conds,cP p.ef,mV p.ab]
def kT:AV:= .arr 8 λi=> .int .i64 (l.getD i 0)
def ak:AV:= .agg [.int .i64 t.id, .int .i64 t.fn, .int .i64 t.pc,kT t.aw, .int .i64 t.steps, .int .i64 t.kids, .int .i64 t.phase, .int .i64 t.status, .int .i64 t.fault,a8 t.held]
def aF (l:List aB):AV:= .seq zk l.length λi=>ak (l.getD i ao)
def aE (l:List (List Int)):AV:= .seq .leaf l.length λi=>a8 (l.getD i [])
def aj:AV:= .agg [a8 m.vars,a8 m.aa,aE m.a6,a8 m.sig]
def cF (e:cD):AV:= .agg [.int .i64 e.var, .int .i64 e.val]
def bY (l:List cD):AV:= .seq dz l.length λi=>cF (l.getD i cc)
def aA:AV:= .agg [.int .i64 b.ay, .int .i64 b.first,bY b.entries]
def aY (l:List bR):AV:= .seq c7 l.length λi=>aA (l.getD i az)
def ze:AV:= .agg [aF s.ab,aj s.mem,aY s.ae]
def bX:AV:= .agg [.int .i64 e.aC, .int .i64 e.idx, .int .i64 e.kind, .int .i64 e.obj, .int .i64 e.mutex, .int .i64 e.entry, .int .i64 e.ord, .int .i64 e.read, .int .i64 e.wrote]
def vI:AV:= .mc zy (encI i)
def vP:AV:= .mc z7 (ah p)
def vT:AV:= .mc zk (ak t)
def vM:AV:= .mc zm (aj m)
def vB:AV:= .mc c7 (aA b)
def cx:AV:= .mc aI (ze s)
def dh:AV:= .mc bF (bX e)
def dI:AV ->Int
 | .int _ a=>a
 |_=>0
def cu:AV ->List UInt8
 | .str a=>a
 |_=>[]
def dR (d:AV ->α):AV ->List α
 | .seq _ n f | .bD _ n f=>(List.range n).map λi=>d (f i)
 |_=>[]
def dA (d:AV ->α):AV ->List α
 | .arr n f=>(List.range n).map λi=>d (f i)
 |_=>[]
def dX:AV ->aK
 | .agg [.int _ a, .int _ b, .int _ c, .int _ d, .int _ e, .int _ f, .int _ g, .int _ h]=>⟨a,b,c,d,e,f,g,h⟩
 |_=>dL
def dV:AV ->ic
 | .agg [.str s, .int _ n]=>⟨s,n⟩
 |_=>dY
def dF:AV ->dK
 | .agg [.str s,x]=>⟨s,dR dX x⟩
 |_=>bL
def dS:AV ->dc
 | .agg [.int _ a, .int _ b]=>⟨a,b⟩
 |_=>dQ
def dP:AV ->ai
 | .agg [a,b,c,d,e]=>⟨dR dV a,dR cu b,dR cu c,dR dF d,dR dS e⟩
 |_=>lX
def dT:AV ->aB
 | .agg [.int _ a, .int _ b, .int _ c,r, .int _ d, .int _ e, .int _ f, .int _ g, .int _ h,x]=>⟨a,b,c,dA dI r,d,e,f,g,h,dR dI x⟩
 |_=>ao
def dM:AV ->Mem
 | .agg [a,b,c,d]=>⟨dR dI a,dR dI b,dR (dR dI) c,dR dI d⟩
 |_=>du
def dE:AV ->cD
 | .agg [.int _ a, .int _ b]=>⟨a,b⟩
 |_=>cc
def dB:AV ->bR
 | .agg [.int _ a, .int _ b,x]=>⟨a,b,dR dE x⟩
 |_=>az
def eu:AV ->ag
 | .agg [a,m,b]=>⟨dR dT a,dM m,dR dB b⟩
 |_=>aN
def jX:AV ->Ev
 | .agg [.int _ a, .int _ b, .int _ c, .int _ d, .int _ e, .int _ f, .int _ g, .int _ h, .int _ i]=>⟨a,b,c,d,e,f,g,h,i⟩
 |_=>aW
theorem zki (l:List α) (d:α):(List.range l.length).map (λi=>l.getD i d)=l:=by
 apply j5 (by simp)
 grind
theorem uf {d:AV ->α} {enc:α ->AV} {z:α} {sh:Shape} (h:∀ a,d (enc a)=a) (l:List α):dR d (.seq sh l.length λi=>enc (l.getD i z))=l:=by
 simp[dR,h];exact zki l z
theorem ziq:dX (encI i)=i:=rfl
theorem znw (i:ic):dV (kq i)=i:=rfl
theorem znx (i:dc):dS (encS i)=i:=rfl
theorem zny (i:cD):dE (cF i)=i:=rfl
theorem znz (i:Ev):jX (bX i)=i:=rfl
theorem lV:dR dI (a8 l)=l:=uf (enc:=λn=> .int .i64 n) (λ_=>rfl) l
theorem tw (l:List (List UInt8)):dR cu (bj l)=l:=uf (enc:=λn=> .str n) (λ_=>rfl) l
theorem zzx (l:List aK):dR dX (wx l)=l:=uf ziq l
theorem Nb (l:List ic):dR dV (eP l)=l:=uf znw l
theorem zkj (f:dK):dF (fK f)=f:=by
 show(⟨f.name,dR dX (wx f.code)⟩:dK)=f
 rw[zzx]
theorem OK (l:List dK):dR dF (cP l)=l:=uf zkj l
theorem zzy (l:List dc):dR dS (mV l)=l:=uf znx l
theorem zv4:dP (ah p)=p:=by
 show(⟨dR dV (eP p.vars),dR cu (bj p.aP),dR cu (bj p.conds),dR dF (cP p.ef),dR dS (mV p.ab)⟩:ai)=p
 rw[Nb,tw,tw,OK,zzy]
theorem tJ {l:List Int} (h:l.length=8):dA dI (kT l)=l:=by
 show(List.range 8).map (λi=>l.getD i 0)=l
 rw[<- h];exact zki l 0
theorem qQ (l:List cD):dR dE (bY l)=l:=uf zny l
theorem zkk:dB (aA b)=b:=by
 show(⟨b.ay,b.first,dR dE (bY b.entries)⟩:bR)=b
 rw[qQ]
theorem Il (l:List bR):dR dB (aY l)=l:=uf zkk l
theorem Gh (l:List (List Int)):dR (dR dI) (aE l)=l:=uf (enc:=a8) lV l
theorem zo0:dM (aj m)=m:=by
 show(⟨dR dI (a8 m.vars),dR dI (a8 m.aa),dR (dR dI) (aE m.a6),dR dI (a8 m.sig)⟩:Mem)=m
 rw[lV,lV,Gh,lV]
theorem iz (h:t.aw.length=8):dT (ak t)=t:=by
 show(⟨t.id,t.fn,t.pc,dA dI (kT t.aw),t.steps,t.kids,t.phase,t.status,t.fault,dR dI (a8 t.held)⟩:aB)=t
 rw[tJ h,lV]
def zss:List (List UInt8):=[[99,111,110,115,116],[99,111,112,121],[99,97,108,99],[106,117,109,112],[98,114,97,110,99,104],[97,115,115,101,114,116],[115,116,111,112],[108,111,97,100],[115,116,111,114,101],[115,119,97,112],[102,101,116,99,104,97,100,100],[99,97,115],[102,101,110,99,101],[97,119,97,105,116],[108,111,99,107],[117,110,108,111,99,107],[116,114,121,108,111,99,107],[119,97,105,116],[115,105,103,110,97,108],[98,114,111,97,100,99,97,115,116],[115,112,97,119,110],[106,111,105,110]]
def sY:List (List Bool):=[[true,false,false,false,true,false,false],[true,true,false,false,false,false,false],[true,true,true,false,false,true,false],[false,false,false,false,true,false,false],[false,true,false,false,true,false,false],[false,true,false,false,false,false,false],[false,false,false,false,false,false,false],[true,false,false,true,false,false,true],[false,true,false,true,false,false,true],[true,true,false,true,false,false,true],[true,true,false,true,false,false,true],[true,true,true,true,false,false,true],[false,false,false,false,false,false,false],[true,true,false,true,false,true,true],[false,false,false,true,false,false,false],[false,false,false,true,false,false,false],[true,false,false,true,false,false,false],[false,false,false,true,true,false,false],[false,false,false,true,false,false,false],[false,false,false,true,false,false,false],[true,true,false,true,false,false,false],[false,true,false,false,false,false,false]]
def gO:Shape:= .agg [.leaf, .arr 7 .leaf]
def cZ (op:Int) (k:Nat):Bool:=(sY.getD (op - 1).toNat []).getD k false
def iX:List (List UInt8):=[[97,100,100],[115,117,98],[109,117,108],[97,110,100],[111,114],[120,111,114],[101,113],[110,101],[108,116],[108,101]]
def bn (f:Int):List UInt8:=if f<1∨10<f then []else iX.getD (f - 1).toNat []
structure alk where
 most:Int
 order:Bool
 low:Int
 high:Int
 wrote:Bool
 least:Int
 access:Int
 write:Bool
def GG:List (Nat×AV):=[
 (1, .bo (.arr 22 gO) (.arr 22 λi=> .agg [.str (zss.getD i []), .arr 7 λk=> .bool ((sY.getD i []).getD k false)])),
 (2, .bo (.arr 10 .leaf) (.arr 10 λi=> .str (iX.getD i [])))]
def TT:List (Nat×cN):=[
 (3,⟨.leaf, .int .i64 0,8, .int .i64,false⟩),
 (4,⟨.leaf, .bool false,1, .bool,false⟩),
 (5,⟨.leaf, .int .u8 0,1, .int .u8,false⟩),
 (9,⟨.leaf, .str [],16, .string,false⟩),
 (21,⟨.leaf, .int .i32 0,4, .int .i32,false⟩),
 (208,⟨.leaf, .int .u32 0,4, .int .u32,false⟩),
 (39,⟨.leaf, .int .i64 0,8, .int .i64,false⟩),
 (48,⟨.leaf, .int .i64 0,8, .int .i64,false⟩),
 (49,⟨.leaf, .int .i64 0,8, .int .i64,false⟩),
 (54,⟨.leaf, .int .i64 0,8, .int .i64,false⟩),
 (55,⟨.leaf, .int .i64 0,8, .int .i64,false⟩),
 (89,⟨.leaf, .int .i64 0,8, .int .i64,false⟩),
 (90,⟨.leaf, .int .i64 0,8, .int .i64,false⟩),
 (22,⟨.leaf, .ax,24, .slice 114,false⟩),
 (23,⟨.leaf, .ax,24, .slice 9,false⟩),
 (183,⟨.leaf, .ax,24, .slice 23,false⟩),
 (24,⟨.leaf, .ax,24, .slice 65,false⟩),
 (25,⟨.leaf, .ax,24, .slice 85,false⟩),
 (63,⟨.leaf, .ax,24, .slice 92,false⟩),
 (28,⟨.leaf, .ax,24, .slice 51,false⟩),
 (33,⟨.leaf, .ax,24, .slice 68,false⟩),
 (66,⟨.leaf, .ax,24, .slice 118,false⟩),
 (29,⟨.leaf, .ax,24, .slice 3,false⟩),
 (30,⟨.leaf, .ax,24, .slice 29,false⟩),
 (114,⟨dz, .agg [.str [], .int .i64 0],24, .struct [9,3],true⟩),
 (92,⟨zy, .agg [.int .i64 0, .int .i64 0, .int .i64 0, .int .i64 0, .int .i64 0, .int .i64 0, .int .i64 0, .int .i64 0],64, .struct [89,3,3,3,3,3,90,55],true⟩),
 (65,⟨dz, .agg [.str [], .ax],40, .struct [9,63],false⟩),
 (85,⟨dz, .agg [.int .i64 0, .int .i64 0],16, .struct [3,3],true⟩),
 (27,⟨z7, .agg [.ax, .ax, .ax, .ax, .ax],120, .struct [22,23,23,24,25],false⟩),
 (47,⟨.arr 8 .leaf, .arr 8 (λ_=> .int .i64 0),64, .arr 8 3,true⟩),
 (234,⟨.arr 7 .leaf, .arr 7 (λ_=> .int .i64 0),56, .arr 7 3,false⟩),
 (216,⟨.arr 4 .leaf, .arr 4 (λ_=> .int .i64 0),32, .arr 4 3,false⟩),
 (240,⟨.arr 10 .leaf, .arr 10 (λ_=> .str []),160, .arr 10 9,false⟩),
 (226,⟨gO, .agg [.str [], .arr 7 (λ_=> .bool false)],24, .struct [9,224],false⟩),
 (227,⟨.arr 22 gO, .arr 22 (λ_=> .agg [.str [], .arr 7 (λ_=> .bool false)]),528, .arr 22 226,false⟩),
 (236,⟨.arr 3 .leaf, .arr 3 (λ_=> .int .i64 0),24, .arr 3 3,false⟩),
 (224,⟨.arr 7 .leaf, .arr 7 (λ_=> .bool false),7, .arr 7 4,false⟩),
 (51,⟨zk, .agg [.int .i64 0, .int .i64 0, .int .i64 0, .arr 8 (λ_=> .int .i64 0), .int .i64 0, .int .i64 0, .int .i64 0, .int .i64 0, .int .i64 0, .ax],152,
  .struct [3,3,3,47,3,3,48,49,39,29],false⟩),
 (32,⟨zm, .agg [.ax, .ax, .ax, .ax],96, .struct [29,29,30,29],false⟩),
 (68,⟨c7, .agg [.int .i64 0, .int .i64 0, .ax],40, .struct [3,3,66],false⟩),
 (118,⟨dz, .agg [.int .i64 0, .int .i64 0],16, .struct [3,3],true⟩),
 (35,⟨aI, .agg [.ax, .agg [.ax, .ax, .ax, .ax], .ax],144, .struct [28,32,33],false⟩),
 (57,⟨bF, .agg [.int .i64 0, .int .i64 0, .int .i64 0, .int .i64 0, .int .i64 0, .int .i64 0, .int .i64 0, .int .i64 0, .int .i64 0],72,
  .struct [3,3,54,3,3,3,55,3,3],true⟩),
 (108,⟨.leaf, .int .i64 0,8, .int .i64,false⟩),
 (202,⟨.leaf, .ax,24, .slice 205,false⟩),
 (206,⟨.leaf, .ax,24, .slice 4,false⟩),
 (205,⟨zm, .agg [.int .i64 0, .int .i64 0, .int .i64 0, .bool false],32, .struct [108,3,3,4],true⟩),
 (110,⟨zy, .agg [.int .i64 0, .bool false, .int .i64 0, .int .i64 0, .bool false, .int .i64 0, .int .i64 0, .bool false],64, .struct [3,4,3,3,4,3,108,4],false⟩),
 (111,⟨.arr 17 zy, .arr 17 (λ_=> .agg [.int .i64 0, .bool false, .int .i64 0, .int .i64 0, .bool false, .int .i64 0, .int .i64 0, .bool false]),1088, .arr 17 110,false⟩),
 (150,⟨dz, .agg [.int .i64 0, .int .i64 0],16, .struct [3,3],true⟩),
 (102,⟨.agg [aI, .leaf], .agg [.agg [.ax, .agg [.ax, .ax, .ax, .ax], .ax], .int .i64 0],152, .struct [35,3],false⟩)]
theorem za {n:Int} (h1: -9223372036854775808<=n) (h2:n<=9223372036854775807):aM .i64 n:=by
 show(if(true&&decide (n % 18446744073709551616>=9223372036854775808))=true then n % 18446744073709551616 - 18446744073709551616 else n % 18446744073709551616)=n
 rw[wc]
 by_cases h:n % 18446744073709551616>=9223372036854775808
 . rw[wy h,x9 rfl];omega
 . rw[decide_eq_false h,x8 (by simp)];omega
theorem lO (l:List α) (p:α ->Bool) (d:α):l.all p=true↔∀ i,i<l.length ->p (l.getD i d)=true:=by
 rw[yu]
 constructor
 . grind
 . intro h x hx
   obtain⟨i,hi,rfl⟩:=List.mem_iff_getElem.1 hx
   grind
theorem zb7 (l:List α) (p:α ->Bool) (d:α):l.any p=true↔∃ i,i<l.length/\p (l.getD i d)=true:=by
 rw[List.any_eq_true]
 constructor
 . rintro⟨x,hx,hp⟩
   obtain⟨i,hi,rfl⟩:=List.mem_iff_getElem.1 hx
   exact⟨i,hi,by simpa [hi]using hp⟩
 . rintro⟨i,hi,hp⟩
   exact⟨l[i],List.getElem_mem hi,by simpa [hi]using hp⟩
theorem uF {a b:List α} {d:α} (hl:a.length=b.length) (h:∀ j,j<a.length ->a.getD j d=b.getD j d):a=b:=by
 apply j5 hl
 grind
theorem eI {p:Bool} (h:p=true ->False):false=p:=by cases p;rfl;exact(h rfl).elim
theorem XJ {p:Bool} (h:p=false ->False):true=p:=by cases p;exact(h rfl).elim;rfl
theorem zdz (n:Nat) (f:Nat ->AV):aq (.seq sh n f)= .seq sh n f:=rfl
theorem ze0 (k:IntKind) (n:Int):aq (.int k n)= .int k n:=rfl
theorem ze1 (l:List UInt8):aq (.str l)= .str l:=rfl
theorem ab1 {a b:Prop}:(a ->b ->a/\b)↔True:=⟨λ_=>trivial,λ_ x y=>⟨x,y⟩⟩
theorem sI:Shape.agg [Shape.leaf,Shape.leaf,Shape.leaf,Shape.leaf,Shape.leaf,Shape.leaf,Shape.leaf,Shape.leaf]=zy:=rfl
theorem s2:Shape.agg [Shape.leaf,Shape.leaf]=dz:=rfl
theorem s3:Shape.agg [Shape.leaf,Shape.leaf,Shape.leaf]=c7:=rfl
theorem s4:Shape.agg [Shape.leaf,Shape.leaf,Shape.leaf,Shape.leaf]=zm:=rfl
theorem s5:Shape.agg [Shape.leaf,Shape.leaf,Shape.leaf,Shape.leaf,Shape.leaf]=z7:=rfl
theorem s9:Shape.agg [Shape.leaf,Shape.leaf,Shape.leaf,Shape.leaf,Shape.leaf,Shape.leaf,Shape.leaf,Shape.leaf,Shape.leaf]=bF:=rfl
theorem sT:Shape.agg [Shape.leaf,Shape.leaf,Shape.leaf,Shape.arr 8 Shape.leaf,Shape.leaf,Shape.leaf,Shape.leaf,Shape.leaf,Shape.leaf,Shape.leaf]=zk:=rfl
theorem sS:Shape.agg [Shape.leaf,zm,Shape.leaf]=aI:=rfl
theorem rI:(AV.seq Shape.leaf l.length λi=>AV.int IntKind.i64 (l.getD i 0))=a8 l:=rfl
theorem rS (l:List (List UInt8)):(AV.seq Shape.leaf l.length λi=>AV.str (l.getD i []))=bj l:=rfl
theorem rIn (l:List aK):(AV.seq zy l.length λi=>encI (l.getD i dL))=wx l:=rfl
theorem rV (l:List ic):(AV.seq dz l.length λi=>kq (l.getD i dY))=eP l:=rfl
theorem rF (l:List dK):(AV.seq dz l.length λi=>fK (l.getD i bL))=cP l:=rfl
theorem rSt (l:List dc):(AV.seq dz l.length λi=>encS (l.getD i dQ))=mV l:=rfl
theorem rT (l:List aB):(AV.seq zk l.length λi=>ak (l.getD i ao))=aF l:=rfl
theorem rQ (l:List (List Int)):(AV.seq Shape.leaf l.length λi=>a8 (l.getD i []))=aE l:=rfl
theorem rE (l:List cD):(AV.seq dz l.length λi=>cF (l.getD i cc))=bY l:=rfl
theorem rB (l:List bR):(AV.seq c7 l.length λi=>aA (l.getD i az))=aY l:=rfl
theorem fI:AV.agg [AV.int IntKind.i64 i.op,AV.int IntKind.i64 i.a,AV.int IntKind.i64 i.b,AV.int IntKind.i64 i.c,AV.int IntKind.i64 i.obj,AV.int IntKind.i64 i.n,AV.int IntKind.i64 i.fn,AV.int IntKind.i64 i.ord]=encI i:=rfl
theorem fV (i:ic):AV.agg [AV.str i.name,AV.int IntKind.i64 i.init]=kq i:=rfl
theorem fF (i:dK):AV.agg [AV.str i.name,wx i.code]=fK i:=rfl
theorem fS (i:dc):AV.agg [AV.int IntKind.i64 i.fn,AV.int IntKind.i64 i.arg]=encS i:=rfl
theorem fP:AV.agg [eP p.vars,bj p.aP,bj p.conds,cP p.ef,mV p.ab]=ah p:=rfl
theorem fA:(AV.arr 8 λi=>AV.int IntKind.i64 (l.getD i 0))=kT l:=rfl
theorem fT:AV.agg [AV.int IntKind.i64 t.id,AV.int IntKind.i64 t.fn,AV.int IntKind.i64 t.pc,kT t.aw,AV.int IntKind.i64 t.steps,AV.int IntKind.i64 t.kids,AV.int IntKind.i64 t.phase,AV.int IntKind.i64 t.status,AV.int IntKind.i64 t.fault,a8 t.held]=ak t:=rfl
theorem fM:AV.agg [a8 m.vars,a8 m.aa,aE m.a6,a8 m.sig]=aj m:=rfl
theorem fE (e:cD):AV.agg [AV.int IntKind.i64 e.var,AV.int IntKind.i64 e.val]=cF e:=rfl
theorem fB:AV.agg [AV.int IntKind.i64 b.ay,AV.int IntKind.i64 b.first,bY b.entries]=aA b:=rfl
theorem fSt:AV.agg [aF s.ab,aj s.mem,aY s.ae]=ze s:=rfl
theorem fEv:AV.agg [AV.int IntKind.i64 e.aC,AV.int IntKind.i64 e.idx,AV.int IntKind.i64 e.kind,AV.int IntKind.i64 e.obj,AV.int IntKind.i64 e.mutex,AV.int IntKind.i64 e.entry,AV.int IntKind.i64 e.ord,AV.int IntKind.i64 e.read,AV.int IntKind.i64 e.wrote]=bX e:=rfl
noncomputable def eM (n:Nat):bu:={P:=Tryz.prog,T:=TT,G:=GG,vH:=false,ntmps:=n}
theorem zq (n:Nat):gn (eM n):=ll (by kernel_rfl)
def RR.{u} {α:Sort u} (a:α):Prop:=a=a
def RW (n:Nat) (f:Nat ->AV):Prop:=RR sh/\RR n/\∀ i:Nat,i<n ->RR (f i)
def RI:Prop:=RR IntKind.i64/\RR n
theorem Yn.{u} {α:Sort u} (a:α):RR a↔True:=⟨λ_=>trivial,λ_=>rfl⟩
theorem Yf (n:Nat) (f:Nat ->AV):RW sh n f↔True:=⟨λ_=>trivial,λ_=>⟨rfl,rfl,λ_ _=>rfl⟩⟩
theorem Yu:RI n↔True:=⟨λ_=>trivial,λ_=>⟨rfl,rfl⟩⟩
theorem SB:type_of% @wg/\type_of% @w6/\type_of% @w8.{0}/\type_of% @w8.{1}/\type_of% @gp/\type_of% @xk/\type_of% @xa/\type_of% @xg/\type_of% @xy/\type_of% @xi/\type_of% @xd/\type_of% @xh/\type_of% @y8/\type_of% @imp_self/\type_of% @xo.{0}/\type_of% @xp.{0}/\type_of% @gz.{0}/\type_of% @w9.{0}/\type_of% @ne_eq.{1}/\type_of% @ye/\type_of% @zdz/\type_of% @ze0/\type_of% @ze1/\type_of% @Int.ofNat_lt/\type_of% @Int.ofNat_le/\type_of% @Int.natCast_nonneg/\type_of% @xm/\type_of% @Nat.one_mul/\type_of% @false_implies/\type_of% @ab1/\type_of% @Int.toNat_zero/\type_of% @Int.toNat_one/\type_of% @sI/\type_of% @s2/\type_of% @s3/\type_of% @s4/\type_of% @s5/\type_of% @s9/\type_of% @sT/\type_of% @sS/\type_of% @rI/\type_of% @rS/\type_of% @rIn/\type_of% @rV/\type_of% @rF/\type_of% @rSt/\type_of% @rT/\type_of% @rQ/\type_of% @rE/\type_of% @rB/\type_of% @fI/\type_of% @fV/\type_of% @fF/\type_of% @fS/\type_of% @fP/\type_of% @fA/\type_of% @fT/\type_of% @fM/\type_of% @fE/\type_of% @fB/\type_of% @fSt/\type_of% @fEv/\type_of% @ziq/\type_of% @znw/\type_of% @znx/\type_of% @zny/\type_of% @znz/\type_of% @lV/\type_of% @tw/\type_of% @zzx/\type_of% @Nb/\type_of% @zkj/\type_of% @OK/\type_of% @zzy/\type_of% @zv4/\type_of% @qQ/\type_of% @zkk/\type_of% @Il/\type_of% @Gh/\type_of% @zo0/\type_of% @Int.sub_zero/\type_of% @xw/\type_of% @Yn.{1}/\type_of% @Yf/\type_of% @Yu:=
 ⟨@wg,@w6,@w8.{0},@w8.{1},@gp,@xk,@xa,@xg,@xy,@xi,@xd,@xh,@y8,@imp_self,@xo.{0},@xp.{0},@gz.{0},@w9.{0},@ne_eq.{1},@ye,@zdz,@ze0,@ze1,@Int.ofNat_lt,@Int.ofNat_le,@Int.natCast_nonneg,@xm,@Nat.one_mul,@false_implies,@ab1,@Int.toNat_zero,@Int.toNat_one,@sI,@s2,@s3,@s4,@s5,@s9,@sT,@sS,@rI,@rS,@rIn,@rV,@rF,@rSt,@rT,@rQ,@rE,@rB,@fI,@fV,@fF,@fS,@fP,@fA,@fT,@fM,@fE,@fB,@fSt,@fEv,@ziq,@znw,@znx,@zny,@znz,@lV,@tw,@zzx,@Nb,@zkj,@OK,@zzy,@zv4,@qQ,@zkk,@Il,@Gh,@zo0,@Int.sub_zero,@xw,@Yn.{1},@Yf,@Yu⟩
def LT (x:AV):Prop:=LS x x
theorem XR (x:AV):LT x↔True:=iL x
theorem abh (a b:List Int):LS (a8 a) (a8 b)↔a.length=b.length/\∀ i:Nat,i<a.length ->AV.int .i64 (a.getD i 0)=AV.int .i64 (b.getD i 0):=gf (by kernel_rfl)
theorem abj (a b:List (List UInt8)):LS (bj a) (bj b)↔a.length=b.length/\∀ i:Nat,i<a.length ->AV.str (a.getD i [])=AV.str (b.getD i []):=gf (by kernel_rfl)
theorem zv5 (a b:List aK):LS (wx a) (wx b)↔a.length=b.length/\∀ i:Nat,i<a.length ->encI (a.getD i dL)=encI (b.getD i dL):=gf (by kernel_rfl)
theorem Y4 (a b:List ic):LS (eP a) (eP b)↔a.length=b.length/\∀ i:Nat,i<a.length ->kq (a.getD i dY)=kq (b.getD i dY):=gf (by kernel_rfl)
theorem aaq (a b:List dK):LS (cP a) (cP b)↔a.length=b.length/\∀ i:Nat,i<a.length ->fK (a.getD i bL)=fK (b.getD i bL):=gf (by kernel_rfl)
theorem zv6 (a b:List dc):LS (mV a) (mV b)↔a.length=b.length/\∀ i:Nat,i<a.length ->encS (a.getD i dQ)=encS (b.getD i dQ):=gf (by kernel_rfl)
theorem aa4 (a b:List aB):LS (aF a) (aF b)↔a.length=b.length/\∀ i:Nat,i<a.length ->ak (a.getD i ao)=ak (b.getD i ao):=gf (by kernel_rfl)
theorem z141 (a b:List (List Int)):LS (aE a) (aE b)↔a.length=b.length/\∀ i:Nat,i<a.length ->a8 (a.getD i [])=a8 (b.getD i []):=gf (by kernel_rfl)
theorem aa0 (a b:List cD):LS (bY a) (bY b)↔a.length=b.length/\∀ i:Nat,i<a.length ->cF (a.getD i cc)=cF (b.getD i cc):=gf (by kernel_rfl)
theorem z143 (a b:List bR):LS (aY a) (aY b)↔a.length=b.length/\∀ i:Nat,i<a.length ->aA (a.getD i az)=aA (b.getD i az):=gf (by kernel_rfl)
theorem aai (a b:Mem):LS (aj a) (aj b)↔(a.vars.length=b.vars.length/\∀ i:Nat,i<a.vars.length ->AV.int .i64 (a.vars.getD i 0)=AV.int .i64 (b.vars.getD i 0))/\(a.aa.length=b.aa.length/\∀ i:Nat,i<a.aa.length ->AV.int .i64 (a.aa.getD i 0)=AV.int .i64 (b.aa.getD i 0))/\(a.a6.length=b.a6.length/\∀ i:Nat,i<a.a6.length ->a8 (a.a6.getD i [])=a8 (b.a6.getD i []))/\a.sig.length=b.sig.length/\∀ i:Nat,i<a.sig.length ->AV.int .i64 (a.sig.getD i 0)=AV.int .i64 (b.sig.getD i 0):=gf (by kernel_rfl)
theorem z145 (a b:aB):LS (ak a) (ak b)↔a.id=b.id/\a.fn=b.fn/\a.pc=b.pc/\(∀ i:Nat,AV.int .i64 (a.aw.getD i 0)=AV.int .i64 (b.aw.getD i 0))/\a.steps=b.steps/\a.kids=b.kids/\a.phase=b.phase/\a.status=b.status/\a.fault=b.fault/\a.held.length=b.held.length/\∀ i:Nat,i<a.held.length ->AV.int .i64 (a.held.getD i 0)=AV.int .i64 (b.held.getD i 0):=gf (by kernel_rfl)
theorem z146 (a b:aK):LS (encI a) (encI b)↔a.op=b.op/\a.a=b.a/\a.b=b.b/\a.c=b.c/\a.obj=b.obj/\a.n=b.n/\a.fn=b.fn/\a.ord=b.ord:=gf (by kernel_rfl)
theorem zv7 (a b:Ev):LS (bX a) (bX b)↔a.aC=b.aC/\a.idx=b.idx/\a.kind=b.kind/\a.obj=b.obj/\a.mutex=b.mutex/\a.entry=b.entry/\a.ord=b.ord/\a.read=b.read/\a.wrote=b.wrote:=gf (by kernel_rfl)
theorem aba (a b:bR):LS (aA a) (aA b)↔a.ay=b.ay/\a.first=b.first/\a.entries.length=b.entries.length/\∀ i:Nat,i<a.entries.length ->cF (a.entries.getD i cc)=cF (b.entries.getD i cc):=gf (by kernel_rfl)
theorem z148 (a b:ai):LS (ah a) (ah b)↔(a.vars.length=b.vars.length/\∀ i:Nat,i<a.vars.length ->kq (a.vars.getD i dY)=kq (b.vars.getD i dY))/\(a.aP.length=b.aP.length/\∀ i:Nat,i<a.aP.length ->AV.str (a.aP.getD i [])=AV.str (b.aP.getD i []))/\(a.conds.length=b.conds.length/\∀ i:Nat,i<a.conds.length ->AV.str (a.conds.getD i [])=AV.str (b.conds.getD i []))/\(a.ef.length=b.ef.length/\∀ i:Nat,i<a.ef.length ->fK (a.ef.getD i bL)=fK (b.ef.getD i bL))/\a.ab.length=b.ab.length/\∀ i:Nat,i<a.ab.length ->encS (a.ab.getD i dQ)=encS (b.ab.getD i dQ):=gf (by kernel_rfl)
theorem zv8 (a b:ag):LS (ze a) (ze b)↔(a.ab.length=b.ab.length/\∀ i:Nat,i<a.ab.length ->ak (a.ab.getD i ao)=ak (b.ab.getD i ao))/\((a.mem.vars.length=b.mem.vars.length/\∀ i:Nat,i<a.mem.vars.length ->AV.int .i64 (a.mem.vars.getD i 0)=AV.int .i64 (b.mem.vars.getD i 0))/\(a.mem.aa.length=b.mem.aa.length/\∀ i:Nat,i<a.mem.aa.length ->AV.int .i64 (a.mem.aa.getD i 0)=AV.int .i64 (b.mem.aa.getD i 0))/\(a.mem.a6.length=b.mem.a6.length/\∀ i:Nat,i<a.mem.a6.length ->a8 (a.mem.a6.getD i [])=a8 (b.mem.a6.getD i []))/\a.mem.sig.length=b.mem.sig.length/\∀ i:Nat,i<a.mem.sig.length ->AV.int .i64 (a.mem.sig.getD i 0)=AV.int .i64 (b.mem.sig.getD i 0))/\a.ae.length=b.ae.length/\∀ i:Nat,i<a.ae.length ->aA (a.ae.getD i az)=aA (b.ae.getD i az):=gf (by kernel_rfl)
theorem SX:type_of% @abh/\type_of% @abj/\type_of% @zv5/\type_of% @Y4/\type_of% @aaq/\type_of% @zv6/\type_of% @aa4/\type_of% @z141/\type_of% @aa0/\type_of% @z143/\type_of% @aai/\type_of% @z145/\type_of% @z146/\type_of% @zv7/\type_of% @aba/\type_of% @z148/\type_of% @zv8/\type_of% @XR:=
 ⟨@abh,@abj,@zv5,@Y4,@aaq,@zv6,@aa4,@z141,@aa0,@z143,@aai,@z145,@z146,@zv7,@aba,@z148,@zv8,@XR⟩
theorem zo1 {h h':List (Nat×ar)} {x:AV}:AV.le h h' x x:=fH _ _ _ _ (le_refl _ _ x)
theorem aa5 {C:bu} (hP:C.P=Tryz.prog) (hT:C.T=TT):gn C:=by
 cases C
 cases hP
 cases hT
 exact ll (by kernel_rfl)
theorem Kn (V:bm) {G:List (Nat×AV)} {f:FuncId} {fn:Func} {args:List AV} {r:AV} (hf:Tryz.prog.funcs[f]? =some fn) (N:Prop) (h:N) (e:tm V fn args r=N:=by kernel_rfl)
 (hok : ((fn.name == "runtime.NumGoroutine") || fn.body.isNone || !Nat.beq fn.ntmps V.C.ntmps || !Nat.ble args.length V.C.ntmps) = false := by kernel_rfl)
 (hP:V.C.P=Tryz.prog:=by exact rfl) (hT:V.C.T=TT:=by exact rfl) (hG:V.C.G=G:=by exact rfl) (hC:V.CC=eS Tryz.prog G:=by exact rfl)
 (hF:∀ f ga r cs,V.C.nU f ga r cs ->c6 Tryz.prog G f ga r cs:=by first |exact λ_ _ _ _ h=>False.elim h |exact λ_ _ _ _ h=>h):eS Tryz.prog G f args r:=by
 have :=eS.of (V:=V) (hP ▸ hf) hok (aa5 hP hT) (by rw[hC,hP,hG]) (e ▸ h) (by rw[hP,hG];exact hF)
 grind
theorem nc (V:bm) {G:List (Nat×AV)} {f:FuncId} {fn:Func} {args:List AV} {r:AV} {cs:List ar} (hf:Tryz.prog.funcs[f]? =some fn) (N:Prop) (h:N) (e:z6v V fn args r cs=N:=by kernel_rfl)
 (hok : ((fn.name == "runtime.NumGoroutine") || fn.body.isNone || !Nat.beq fn.ntmps V.C.ntmps || !Nat.ble args.length V.C.ntmps) = false := by kernel_rfl)
 (hP:V.C.P=Tryz.prog:=by exact rfl) (hT:V.C.T=TT:=by exact rfl) (hG:V.C.G=G:=by exact rfl) (hC:V.CC=eS Tryz.prog G:=by exact rfl)
 (hF:∀ f ga r cs,V.C.nU f ga r cs ->c6 Tryz.prog G f ga r cs:=by first |exact λ_ _ _ _ h=>False.elim h |exact λ_ _ _ _ h=>h):c6 Tryz.prog G f args r cs:=by
 have :=c6.of (V:=V) (hP ▸ hf) hok (aa5 hP hT) (by rw[hC,hP,hG]) (e ▸ h) (by rw[hP,hG];exact hF)
 grind
theorem zkl (i:Int) (n:Nat):af i n↔0<=i/\i<(n:Int):=Iff.rfl
theorem SZ:type_of% @SB/\type_of% @SX/\type_of% @zkl:=⟨SB,SX,zkl⟩
def iv (n:Nat) (S:Nat ->St):Option Inv:=some {ι:=Nat,S:=S,μ:=λi=>n - i,ok:=λi=>i<=n}
def iw (n:Nat) (S:Nat ->St) (P:Nat ->Prop):Option Inv:=some {ι:=Nat,S:=S,μ:=λi=>n - i,ok:=λi=>i<=n/\P i}
abbrev KN (f:FuncId) (a:List AV) (r:AV):Prop:=eS Tryz.prog GG f a r
abbrev KF (f:FuncId) (a:List AV) (r:AV) (c:List ar):Prop:=c6 Tryz.prog GG f a r c
def wr:Int:=(n+2147483648) % 4294967296 - 2147483648
def jz (b:Bool):Int:=bif b then 1 else 0
def low:Nat:=(n % 4294967296).toNat
def TB (g:Nat ->Nat ->Nat) (x y:Int):Int:=wr (g (low x) (low y):Nat)
def app (f a b:Int):Int×Int:=
 if f=1 then(wr (wr a+wr b),0)
 else if f=2 then(wr (wr a - wr b),0)
 else if f=3 then(wr (wr a*wr b),0)
 else if f=4 then(TB (· &&& ·) a b,0)
 else if f=5 then(TB (· ||| ·) a b,0)
 else if f=6 then(TB (· ^^^ ·) a b,0)
 else if f=7 then(jz (wr a==wr b),0)
 else if f=8 then(jz (wr a !=wr b),0)
 else if f=9 then(jz (decide (wr a<wr b)),0)
 else if f=10 then(jz (decide (wr a<=wr b)),0)
 else(0,8)
def iE (r:Nat ->Int) (X Y:Nat):Nat ->Int
 |0=>0
 |n+1=>iE r X Y n+2 ^ n*r (2*(X/2 ^ n % 2)+Y/2 ^ n % 2)
def spV:FuncId ->List AV ->Option AV
 |138,[.int _ n] |209,[.int _ n]=>some (.int .i64 (wr n))
 |230,[.bool b] |211,[.bool b]=>some (.int .i64 (jz b))
 |180,[.int _ f, .int _ a, .int _ b] |150,[.int _ f, .int _ a, .int _ b]=>some (.av [.int .i64 (app f a b).1, .int .i64 (app f a b).2])
 |210,[.int _ x, .int _ y, .mc _ (.arr _ r)]=>some (.int .i64 (wr (iE (λi=>dI (r i)) (low x) (low y) 32)))
 |249,[.int _ f] |217,[.int _ f]=>some (.str (bn f))
 |_,_=>none
noncomputable def vV (n:Nat) (inv:Nat ->Option Inv):bm:={C:=eM n,CC:=eS Tryz.prog GG,b9:=λ_ _=>spV,inv:=inv}
def zkm (x y:Int) (r:Nat ->Int) (k:Nat):Option Inv:=match Nat.beq k 8 with
 |true=>iv 32 λi=>⟨[(0, .int .i64 ((low x/2 ^ i:Nat):Int)),(1, .int .i64 ((low y/2 ^ i:Nat):Int)),(5, .ptr 5 []),(7, .int .i64 (iE r (low x) (low y) i)),(8, .int .i64 (2 ^ i)),(9, .int .i64 i)],[(5, .cell 216 (.arr 4 .leaf) (.arr 4 λi=> .int .i64 (r i)))]⟩
 |false=>none
end
end Go.Proofs.S25
