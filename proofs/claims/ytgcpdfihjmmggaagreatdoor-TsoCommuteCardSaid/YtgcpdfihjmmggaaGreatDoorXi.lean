import Derived.Test.YtgcpdfihjmmggaaGreatDoorXh
import Derived.Test.YtgcpdfihjmmggaaGreatDoorProg
import Derived.KernelRfl
namespace Go.AV
open Go.RowKit
mutual
def jQ (ks:List Nat) (h:List (Nat×ar)):AV ->Option (AV×List Prop)
 | .own b n=>match oS b ks with
  |true=>some (.own b n,[])
  |false=>gC h (.own b n)
 | .ptr b p=>match oS b ks with
  |true=>some (.ptr b p,[])
  |false=>gC h (.ptr b p)
 | .bq b i p=>match oS b ks with
  |true=>some (.bq b i p,[])
  |false=>gC h (.bq b i p)
 | .agg l=>match XF ks h l with |some (m,e)=>some (.agg m,e) |none=>none
 | .mc sh x=>match jQ ks h x with |some (y,e)=>some (.mc sh y,e) |none=>none
 | .av l=>match XF ks h l with |some (m,e)=>some (.av m,e) |none=>none
 |x=>gC h x
def XF (ks:List Nat) (h:List (Nat×ar)):List AV ->Option (List AV×List Prop)
 | []=>some ([],[])
 |x::l=>match jQ ks h x,XF ks h l with
  |some (y,e),some (m,f)=>some (y::m,e++f)
  |_,_=>none
end
mutual
def zde:AV ->AV ->List (Nat×Nat)
 | .own b _, .own i _=>[(i,b)]
 | .agg l, .agg m=>znv l m
 | .av l, .av m=>znv l m
 | .mc _ x, .mc _ y=>zde x y
 |_,_=>[]
def znv:List AV ->List AV ->List (Nat×Nat)
 |x::l,y::m=>zde x y++znv l m
 |_,_=>[]
end
def bn (prs:List (Nat×Nat)) (i:Nat):Nat:=match get prs i with |some b=>b |none=>1048576+i
def z7z (prs:List (Nat×Nat)):Nat ->List ar ->List (Nat×ar)
 |_,[]=>[]
 |i,c::cs=>(bn prs i,c)::z7z prs (i+1) cs
def zcf:List ar ->Bool
 | []=>true
 |c::cs=>c.isRow&&zcf cs
def nv:List (Nat×ar) ->List Nat
 | []=>[]
 | (k,_)::l=>k::nv l
def zv3 (C:ls) (st:St) (rs:List ResultVar) (r:AV) (cs:List ar):Option (List Prop×St×St):=
 match ug C st rs with
 |some l=>match Ve (nv (z7z (zde (nb l) r) 0 cs))&&(tC (below cs.length) r&&zcf cs),jQ (nv (z7z (zde (nb l) r) 0 cs)) (nG (nv (z7z (zde (nb l) r) 0 cs)) st.heap) (nb l)with
  |true,some (m,e)=>some (e,⟨[(0,m)],iK (nv (z7z (zde (nb l) r) 0 cs)) st.heap⟩,⟨[(0,r.sub (bn (zde (nb l) r)))],z7z (zde (nb l) r) 0 cs⟩)
  |_,_=>none
 |none=>none
def zin (V:bm) (fn:Func) (r:AV) (cs:List ar) (e:Exit) (st:St):Prop:=
 match e with
 | .ret | .normal=>match zv3 V.C st fn.results.toList r cs with
  |some (h,f,s2)=>AT h (St.kY f s2)
  |none=>False
 |_=>False
def z6v (V:bm) (fn:Func) (args:List AV) (r:AV) (cs:List ar):Prop:=
 match fn.body with
 |some c=>vc V c ⟨z87 0 args,[]⟩ (zin V fn r cs)
 |none=>False
section
variable {C:ls} {W0:lw} {F0:Nat ->Prop} {st st':St} {a:Act} {w:World} {F:Nat ->Prop} {φ:Nat ->Place}
mutual
theorem zf7 {ks:List Nat} {st:St} (h:li C W0 F0 st a w F φ):∀ (x y:AV) (ps:List Prop),jQ ks st.heap x=some (y,ps) ->(∀ p∈ps,p) ->
 (∀ v,aG w F φ v x ->aG w (dg st F φ) φ v y)/\(∀ sh j v,aG w F φ v (z6 sh x j) ->aG w (dg st F φ) φ v (z6 sh y j))
 | .own b n,y,ps,hf,f=>by
  simp[jQ]at hf
  split at hf
  cases hf
  exact⟨λv e=>e.keep (λ_ _=>rfl) (λk hk=> .inl hk) λ_ _=>rfl,λsh j v e=>e.keep (λ_ _=>rfl) (λk hk=> .inl hk) λ_ _=>rfl⟩
  have⟨r,h2⟩:=sJ h _ _ _ hf f
  exact⟨λv e=> .stat (r v e),λsh j v e=> .stat (h2 sh j v e)⟩
 | .ptr b p,y,ps,hf,f=>by
  simp[jQ]at hf
  split at hf
  cases hf
  exact⟨λv e=>e.keep (λ_ _=>rfl) (λk hk=> .inl hk) λ_ _=>rfl,λsh j v e=>e.keep (λ_ _=>rfl) (λk hk=> .inl hk) λ_ _=>rfl⟩
  have⟨r,h2⟩:=sJ h _ _ _ hf f
  exact⟨λv e=> .stat (r v e),λsh j v e=> .stat (h2 sh j v e)⟩
 | .bq b i p,y,ps,hf,f=>by
  simp[jQ]at hf
  split at hf
  cases hf
  exact⟨λv e=>e.keep (λ_ _=>rfl) (λk hk=> .inl hk) λ_ _=>rfl,λsh j v e=>e.keep (λ_ _=>rfl) (λk hk=> .inl hk) λ_ _=>rfl⟩
  have⟨r,h2⟩:=sJ h _ _ _ hf f
  exact⟨λv e=> .stat (r v e),λsh j v e=> .stat (h2 sh j v e)⟩
 | .agg l,y,ps,hf,f=>by
  simp[jQ]at hf
  split at hf
  case h_2=>cases hf
  rename_i m qs K
  cases hf
  refine⟨λv e=>(by cases e with |stat e=>cases e),λs j v e=>?_⟩
  cases s with
  |ey=>simp[z6,eC,AV.b8]at e ⊢;exact .stat (.any _ (e.one rfl))
  |agg ss=>simp only[z6]at e ⊢;exact(zcg h l m ps K f).2 ss j v e
  |arr n s=>simp only[z6]at e ⊢;exact .stat (.any _ (e.one rfl))
 | .mc sh x,y,ps,hf,f=>by
  simp only[jQ]at hf
  split at hf
  case h_2=>cases hf
  rename_i z qs Q
  cases hf
  have⟨_,u⟩:=zf7 h x z ps Q f
  refine⟨λv e=>?_,λs' j v e=>?_⟩
  obtain⟨cs,rfl,hsz,R⟩:=e.aos
  exact .mc cs sh z hsz λj k=>u sh j _ (R j k)
  cases s' with
  |ey=>simp only[z6,eC,AV.b8]at e ⊢;exact .stat (.any _ (e.one rfl))
  |agg ss=>simp only[z6]at e ⊢;exact .stat (.any _ (e.one rfl))
  |arr m s=>simp only[z6]at e ⊢;exact .stat (.any _ (e.one rfl))
 | .av l,y,ps,hf,f=>by
  simp only[jQ]at hf
  split at hf
  case h_2=>cases hf
  rename_i m qs K
  cases hf
  have⟨⟨k0,J⟩,u⟩:=zcg h l m ps K f
  refine⟨λv e=>?_,λs j v e=>?_⟩
  cases e with
  |stat e=>cases e
  |av M _ r h2=>exact .av M m O λj k=>J j k _ (h2 j O)
  cases s with
  |ey=>simp only[z6,eC,AV.b8]at e ⊢;exact .stat (.any _ (e.one rfl))
  |agg ss=>simp only[z6]at e ⊢;exact .stat (.any _ (e.one rfl))
  |arr n s=>simp only[z6]at e ⊢;exact .stat (.any _ (e.one rfl))
 | .any,y,ps,hf,f | .int _ _,y,ps,hf,f | .bool _,y,ps,hf,f | .str _,y,ps,hf,f | .ax,y,ps,hf,f | .dj,y,ps,hf,f | .seq _ _ _,y,ps,hf,f | .bD _ _ _,y,ps,hf,f
 | .bJ _ _ _ _,y,ps,hf,f | .cz _ _ _ _,y,ps,hf,f | .jS _,y,ps,hf,f | .bo _ _,y,ps,hf,f | .arr _ _,y,ps,hf,f | .st _,y,ps,hf,f | .c8 _ _,y,ps,hf,f | .when _ _,y,ps,hf,f=>by
  simp only[jQ]at hf
  have⟨r,h2⟩:=sJ h _ _ _ hf f
  exact⟨λv e=> .stat (r v e),λsh j v e=> .stat (h2 sh j v e)⟩
theorem zcg {ks:List Nat} {st:St} (h:li C W0 F0 st a w F φ):∀ (l m:List AV) (ps:List Prop),XF ks st.heap l=some (m,ps) ->(∀ p∈ps,p) ->
 (l.length=m.length/\∀ j,j<m.length ->∀ v,aG w F φ v (l.getD j .any) ->aG w (dg st F φ) φ v (m.getD j .any))/\
 ∀ ss j v,aG w F φ v (zh ss l j) ->aG w (dg st F φ) φ v (zh ss m j)
 | [],m,ps,hf,_=>by
  simp[XF]at hf;obtain⟨rfl,rfl⟩:=hf
  refine⟨⟨rfl,λj k=>by simp at k⟩,λss j v e=>?_⟩
  cases ss<;>simp only[zh]at e ⊢ <;>exact .stat (.any _ (e.one rfl))
 |x::l,m,ps,hf,f=>by
  simp only[XF]at hf
  split at hf
  case h_2=>cases hf
  rename_i y H m' E r h2
  cases hf
  have⟨⟨l1,N⟩,l3⟩:=zcg h l m' E h2 λp hp=>f p (by simp[hp])
  have⟨J,u⟩:=zf7 h x y H r λp hp=>f p (by simp[hp])
  refine⟨⟨by simp[l1],λj k v e=>?_⟩,λss j v e=>?_⟩
  cases j with
  |zero=>exact J v (by simpa using e)
  |succ j=>simpa using N j (by simpa using k) v (by simpa using e)
  cases ss with
  |nil=>simp only[zh]at e ⊢;exact .stat (.any _ (e.one rfl))
  |cons s ss=>
   simp only[zh]at e ⊢
   split
   rename_i k;rw[x9 k]at e;exact u s j v e
   rename_i k;rw[x8 k]at e;exact l3 ss _ v e
end
theorem z77 {prs:List (Nat×Nat)}:∀ (cs:List ar) (i j:Nat) (c:ar),Ve (nv (z7z prs i cs))=true ->cs[j]? =some c ->get (z7z prs i cs) (bn prs (i+j))=some c/\bn prs (i+j)∈nv (z7z prs i cs)
 | [],i,j,c,_,h=>by simp at h
 |d::cs,i,0,c,_,h=>by
  simp at h;subst h
  simp[z7z,get,nv]
 |d::cs,i,j+1,c,f,h=>by
  simp[z7z,nv,Ve]at f
  have⟨u,k⟩:=z77 cs (i+1) j c f.2 (by simpa using h)
  rw[show i+1+j=i+(j+1)from O]at u k
  have m:Nat.beq (bn prs i) (bn prs (i+(j+1)))=false:=by
   cases e:Nat.beq (bn prs i) (bn prs (i+(j+1)))with
   |false=>rfl
   |true=>
    rw[xc e,Kv.2 k]at f;cases f.1
  simp[z7z,get,nv];grind
theorem zch {prs:List (Nat×Nat)}:∀ (cs:List ar) (i j f:Nat),Ve (nv (z7z prs i cs))=true ->j<cs.length ->f<cs.length ->bn prs (i+j)=bn prs (i+f) ->j=f
 | [],_,_,_,_,h,_,_=>by simp at h
 |d::cs,i,j,f,m,y,u,e=>by
  simp only[z7z,nv,Ve,xa,xi]at m
  have l5:∀ k,k<cs.length ->bn prs (i+(k+1))∈nv (z7z prs (i+1) cs):=λk x=>by
   have :=(z77 cs (i+1) k _ m.2 (xe x)).2
   grind
  have ne:∀ k,k<cs.length ->bn prs (i+0)≠bn prs (i+(k+1)):=λk x e=>by
   rw[wd]at e
   rw[e,Kv.2 (l5 k x)]at m;cases m.1
  cases j with
  |zero=>cases f with
   |zero=>rfl
   |succ f=>exact absurd e (ne f (by simpa using u))
  |succ j=>cases f with
   |zero=>exact absurd e.symm (ne j (by simpa using y))
   |succ f=>
    have :=zch cs (i+1) j f m.2 (by simpa using y) (by simpa using u) (by rw[show i+1+j=i+(j+1)from O,show i+1+f=i+(f+1)from O];exact e)
    omega
theorem zci:∀ (cs:List ar) {i:Nat} {c:ar},zcf cs=true ->cs[i]? =some c ->c.isRow=true
 | [],_,_,_,h=>by simp at h
 |d::cs,0,c,e,h=>by simp[zcf]at e;simp at h;subst h;exact e.1
 |d::cs,i+1,c,e,h=>by simp[zcf]at e;exact zci cs e.2 (by simpa using h)
theorem zmr {e:List Value} {l:List AV} (hl:e.length=l.length) (h:∀ j,j<l.length ->aG w F φ (e.getD j undef) (l.getD j .any)):aG w F φ (ZF e) (nb l):=by
 match l,e,hl,h with
 | [],e,hl,h=>
  have :e=[]:=xz (by simpa using hl);subst this;exact .av #[] [] rfl λj f=>by simp at f
 | [y],e,hl,h=>
  match e,(hl:e.length=1)with
  | [v],_=>
   show aG w F φ v y;simp_all
 |y::z::m,e,hl,h=>
  match e,(hl:e.length=m.length+1+1)with
  |v::u::e,hlen=>exact .av _ _ (by simpa using hlen) λj f=>ce
theorem K6.pU {V:bm} {f:FuncId} {fn:Func} {args:List AV} {r:AV} {cs:List ar} (hf:V.C.P.funcs[f]? =some fn) (hn:fn.ntmps=V.C.ntmps) (hl:args.length<=V.C.ntmps) (hT:gn V.C) (hCC:dW V.C V.CC) (h:z6v V fn args r cs):
 K6 V.C.P V.C.G f args r cs:=by
 intro w F vs hro hglob hsz hr;unfold z6v at h;split at h;case h_2=>exact h.elim
 rename_i c hb;refine calls_of_wp hf hb (wp_mono (YL hT hCC c _ _ _ _ _ _ h (li.start hn hl hro hglob hsz hr)) ?_);rintro e a' w' ⟨st,F',φ',hR,hq⟩;have fin:zin V fn r cs .ret st ->bodyPost V.C.P fn (λen w'=>∃ v F' φ',en= .returned v/\Below w.heap.size w w'/\(∀ k,F k ->F' k)/\(∀ k,F' k ->F k∨w.heap.size<=k)/\(∀ k,F' k ->k<w'.heap.size)/\aG w' F' φ' v r/\
  (∀ i c,cs[i]? =some c ->z24 w' F' φ' (λk=>w.heap.size<=k) i c)/\∀ i i' g,i<cs.length ->i'<cs.length ->(φ' i).bV=some g ->(φ' i').bV=some g ->i=i') .ret a' w':=by
  intro hq;unfold zin at hq;dsimp only at hq;split at hq;case h_2=>exact hq.elim
  rename_i ps s1 s2 hret;unfold zv3 at hret;split at hret;case h_2=>cases hret
  rename_i l hres;split at hret;case h_2=>cases hret
  rename_i m ps' hgood hfz;cases hret;simp only[xa]at hgood;obtain⟨hnd,hgood,hrows⟩:=hgood;obtain⟨hps,hle⟩:=pM hq;obtain⟨us,h1,h2,h3⟩:=z76 hR hT _ _ hres;have hv:=zmr h2 h3;generalize hks:nv (z7z (zde (nb l) r) 0 cs)=ks at *;generalize hpr:zde (nb l) r=prs at *;have hR2:li V.C (.of w) F {st with heap:=nG ks st.heap} a' w' F' φ':=
   ⟨hR.env,λb c hc=>hR.heap b c (qF hc).1,λb b' c c' g h1 h2=>hR.inj b b' c c' g (qF h1).1 (qF h2).1,hR.ro,hR.base,hR.sub,hR.new,hR.dfr,hR.iC,hR.ol,λb p hp=>by cases hp⟩
  have hv2:=(zf7 (ks:=ks) hR2 _ _ _ hfz hps).1 _ hv;have hlent:∀ k,dg {st with heap:=nG ks st.heap} F' φ' k ->F k∨w.heap.size<=k:=by
   rintro k (hk | ⟨b,c,hb,hk⟩);exact(hR.new k hk).imp_right λh=>h.resolve_right λhf=>hf;exact .inr (((hR2.heap b c hb).lt hk).2.2.resolve_right λhf=>hf)
  have hlt:∀ k,dg {st with heap:=nG ks st.heap} F' φ' k ->k<w'.heap.size:=by
   rintro k (hk | ⟨b,c,hb,hk⟩);exact hR.ro k hk;exact((hR2.heap b c hb).lt hk).1
  have hR3:li {V.C with ntmps:=1} (.of w) F ⟨[(0,m)],iK ks st.heap⟩ {tmps:=#[ZF us],defers:=[]} w' (dg {st with heap:=nG ks st.heap} F' φ') φ':=by
   refine⟨λs x hs=>?_,λb c hc=>?_,λb b' c c' g h1 h2=>hR.inj b b' c c' g (Mt h1).1 (Mt h2).1,hlt,hR.base,λk hk=> .inl (hR.sub k hk),λk hk=>(hlent k hk).imp_right .inl,rfl,rfl,λg x hg=>(hR.ol g x hg).keep (λ_ _=>rfl) λ_ hk=> .inl hk,λb p hp=>by cases hp⟩;simp only[get]at hs;split at hs;rename_i e;cases hs;have :=xc e;subst this;exact⟨_,rfl,hv2⟩;cases hs;obtain⟨k1,k2⟩:=Mt hc;have hb:=hR.heap b c k1;refine hb.keep (λ_ _=>rfl) (λ_ hk=> .inl hk) (λg hg=>⟨rfl, ?_⟩) rfl λ_ _=>rfl;rintro(h5 | ⟨b',c',h5,h6⟩);exact(hb.lt hg).2.1 h5;obtain⟨h7,h8⟩:=qF h5;exact h8 (hR.inj b' b c' c g h7 k1 h6 hg ▸ k2)
  obtain⟨φ4,hR4⟩:=hR3.weaken hle;obtain⟨v,hv4,hrep⟩:=hR4.env 0 (r.sub (bn prs)) rfl;simp at hv4;subst hv4;refine⟨hR.dfr,_,z8k h1,_,_,λi=>φ4 (bn prs i),rfl,hR.base.toBelow,λk hk=> .inl (hR.sub k hk),hlent,hlt,zzq (m:=below cs.length) (n:=bn prs) (φ2:=φ4) (λ_ _=>rfl) hgood hrep,λi c hc=>?_,λi i' g hi hi' e e'=>?_⟩;have hg:=(z77 cs 0 i c (by rw[hks];exact hnd) hc).1;rw[xw]at hg;have hB:=(hR4.heap _ c hg).base (base':=λk=>w.heap.size<=k) λk hk=>hk.resolve_right λhf=>hf;have hrow:=zci cs hrows hc;cases c with
  |cell tc sh x=>cases hrow
  |row ty sh n f=>exact hB
  have k1:=(z77 cs 0 i _ (by rw[hks];exact hnd) (xe hi)).1;have k2:=(z77 cs 0 i' _ (by rw[hks];exact hnd) (xe hi')).1;rw[xw]at k1 k2;have :=hR4.inj _ _ _ _ g k1 k2 e e';have :=zch cs 0 i i' (prs:=prs) (by rw[hks];exact hnd) hi hi' (by rw[xw,xw];exact this);exact this
 cases e with
 |normal=>exact fin hq
 |ret=>exact fin hq
 |_=>exact hq.elim
end
theorem jH.of {P : Program} {f : FuncId} {fn : Func} (i : P.funcs[f]? = some fn) (h : (fn.name == "runtime.NumGoroutine") = false) (j : fn.body.isNone = false) : jH P f := by
 intro e w
 simp only[callFunc,Sem.run_bind,run_program,Result.andThen_ok,i,h,j]
 rfl
theorem zh0:∀ s:ex,s.same s=true:=by
 intro s;induction s using ex.rec (motive_2:=λl=>ex.jW l l=true)with
 |ey=>rfl
 |agg l e=>exact e
 |arr n s e=>simp[ex.same,e]
 |nil=>rfl
 |cons s l h f=>simp[ex.jW,h,f]
mutual
theorem le_refl (h h':List (Nat×ar)):∀ x:AV,(AV.wz h h' x x).P
 | .agg l | .av l=>by simp only[AV.wz];exact zkh h h' l
 | .mc sh x=>by simp[AV.wz,Gt.AI,Gt.ra];exact⟨zh0 sh,le_refl h h' x⟩
 | .int _ _ | .own _ _ | .ptr _ _ | .ax | .arr _ _=>by simp[AV.wz,Gt.AI,Gt.ra,Gt.P,zil]
 | .seq _ _ _=>by simp[AV.wz,Gt.AI,Gt.ra,Gt.P,zh0]
 | .bD _ _ _ | .cz _ _ _ _ | .bool _ | .str _ | .any | .dj | .bo _ _ | .bq _ _ _ | .c8 _ _ | .st _ | .when _ _ | .jS _ | .bJ _ _ _ _=>by simp[AV.wz,Gt.P,Gt.ra,AV.le,AV.b8]
theorem zkh (h h':List (Nat×ar)):∀ l:List AV,(AV.lI h h' l l).P
 | []=>trivial
 |x::l=>by simp[AV.lI,Gt.AI];exact⟨le_refl h h' x,zkh h h' l⟩
end
def LS (x y:AV):Prop:=(AV.wz [] [] x y).P
theorem iL (x:AV):LS x x↔True:=⟨λ_=>trivial,λ_=>le_refl _ _ x⟩
theorem fp {x y:AV} (h:y=x):LS x y:=by subst h;exact le_refl _ _ _
def mp (P:Program) (G:List (Nat×AV)) (f:FuncId) (args:List AV) (r:AV):Prop:=(jH P f/\rm P G f args r)∨GJ P f args r
def c6 (P:Program) (G:List (Nat×AV)) (f:FuncId) (args:List AV) (r:AV) (cs:List ar):Prop:=jH P f/\K6 P G f args r cs
theorem z9a (C:ls) (j:∀ f e r i,C.nU f e r i ->c6 C.P C.G f e r i):dW C (mp C.P C.G):=⟨λ_ _ _ h=>h,j⟩
theorem mp.of {V : bm} {f : FuncId} {fn : Func} {args : List AV} {r : AV} (j : V.C.P.funcs[f]? = some fn) (e : ((fn.name == "runtime.NumGoroutine") || fn.body.isNone || !Nat.beq fn.ntmps V.C.ntmps || !Nat.ble args.length V.C.ntmps) = false) (u : gn V.C) (i : V.CC = mp V.C.P V.C.G) (h : tm V fn args r)
 (x:∀ f k r m,V.C.nU f k r m ->c6 V.C.P V.C.G f k r m:=by first |exact λ_ _ _ _ h=>False.elim h |exact λ_ _ _ _ h=>h):
 mp V.C.P V.C.G f args r:=by
 simp only[xg,y8]at e;have⟨⟨⟨H,F⟩,E⟩,y⟩:=e;exact .inl ⟨jH.of j H F,rm.pU j (xc E) (wo y) u (by rw[i];exact z9a V.C x) h⟩
theorem c6.of {V : bm} {f : FuncId} {fn : Func} {args : List AV} {r : AV} {i : List ar} (k : V.C.P.funcs[f]? = some fn) (e : ((fn.name == "runtime.NumGoroutine") || fn.body.isNone || !Nat.beq fn.ntmps V.C.ntmps || !Nat.ble args.length V.C.ntmps) = false) (u : gn V.C) (j : V.CC = mp V.C.P V.C.G) (h : z6v V fn args r i)
 (x:∀ f m r i,V.C.nU f m r i ->c6 V.C.P V.C.G f m r i:=by first |exact λ_ _ _ _ h=>False.elim h |exact λ_ _ _ _ h=>h):
 c6 V.C.P V.C.G f args r i:=by
 simp only[xg,y8]at e;have⟨⟨⟨H,F⟩,E⟩,y⟩:=e;exact⟨jH.of k H F,K6.pU k (xc E) (wo y) u (by rw[j];exact z9a V.C x) h⟩
theorem mp.weaken {P:Program} {G:List (Nat×AV)} {f:FuncId} {args args':List AV} {r:AV} (h:mp P G f args r) (hs:AV.bB args') (hl:AV.ko [] [] args' args):mp P G f args' r:=by
 have⟨E,k⟩:=zim hl;rcases h with⟨h1,h2⟩ |h
 exact .inl ⟨h1,λw F e y x u i=>h2 w F e y x O λj m=>zf6 (ue hs j) (k j O) (i j O)⟩;exact .inr λw F e u i=>h w F e O λj m=>zf6 (ue hs j) (k j O) (i j O)
theorem mp.calls {P : Program} {G : List (Nat × AV)} {f : FuncId} {fn : Func} {args : List AV} {r : AV} (h : mp P G f args r) (k : P.funcs[f]? = some fn) (e : ((fn.name == "runtime.NumGoroutine") || fn.body.isNone) = false) : rm P G f args r := by
 simp only[xg]at e
 rcases h with⟨_,h⟩ |h
 exact h
 intro w F j _ _ u m
 have⟨v,i,_⟩:=h w F j u m
 rw[jH.of k e.1 e.2]at i
 cases i
end Go.AV
namespace Go.Proofs.S25
open Go Go.AV Tryz
open Go.IntKind renaming i64 -> j6
open Go.AV.ex (ey)
noncomputable section
structure aK where
 op:Int
 a:Int
 b:Int
 c:Int
 ii:Int
 n:Int
 fn:Int
 ord:Int
 deriving Inhabited,DecidableEq
structure v6 where
 name:List UInt8
 init:Int
 deriving Inhabited,DecidableEq
structure dK where
 name:List UInt8
 code:List aK
 deriving Inhabited,DecidableEq
structure dc where
 fn:Int
 arg:Int
 deriving Inhabited,DecidableEq
structure ai where
 eA:List v6
 aP:List (List UInt8)
 kC:List (List UInt8)
 ef:List dK
 ab:List dc
 deriving Inhabited,DecidableEq
structure i5 where
 id:Int
 fn:Int
 pc:Int
 aw:List Int
 io:Int
 i7:Int
 gH:Int
 ip:Int
 i9:Int
 ic:List Int
 deriving Inhabited,DecidableEq
structure i8 where
 eA:List Int
 aa:List Int
 a6:List (List Int)
 lT:List Int
 deriving Inhabited,DecidableEq
structure cD where
 var:Int
 val:Int
 deriving Inhabited,DecidableEq
structure bR where
 ay:Int
 first:Int
 bO:List cD
 deriving Inhabited,DecidableEq
structure ja where
 ab:List i5
 l5:i8
 ae:List bR
 deriving Inhabited,DecidableEq
structure Ev where
 aC:Int
 ly:Int
 kind:Int
 ii:Int
 k7:Int
 entry:Int
 ord:Int
 read:Int
 i4:Int
 deriving Inhabited,DecidableEq
variable (e:Ev) (sh:ex) (s:ja) (m:i8) (t:i5) (b:bR) (i:aK) (p:ai) (n:Int) (l:List Int) {α:Type}
def dL:aK:=⟨0,0,0,0,0,0,0,0⟩
def dY:v6:=⟨[],0⟩
def bL:dK:=⟨[],[]⟩
def dQ:dc:=⟨0,0⟩
def lX:ai:=⟨[],[],[],[],[]⟩
def ao:i5:=⟨0,0,0,List.replicate 8 0,0,0,0,0,0,[]⟩
def du:i8:=⟨[],[],[],[]⟩
def cc:cD:=⟨0,0⟩
def az:bR:=⟨0,0,[]⟩
def mt:ja:=⟨[],du,[]⟩
def aW:Ev:=⟨0,0,0,0,0,0,0,0,0⟩
def zy:ex:= .agg [.ey, .ey, .ey, .ey, .ey, .ey, .ey, .ey]
def dz:ex:= .agg [.ey, .ey]
def z7:ex:= .agg [.ey, .ey, .ey, .ey, .ey]
def zk:ex:= .agg [.ey, .ey, .ey, .arr 8 .ey, .ey, .ey, .ey, .ey, .ey, .ey]
def zm:ex:= .agg [.ey, .ey, .ey, .ey]
def c7:ex:= .agg [.ey, .ey, .ey]
def aI:ex:= .agg [.ey,zm, .ey]
def bF:ex:= .agg [.ey, .ey, .ey, .ey, .ey, .ey, .ey, .ey, .ey]
abbrev i64:AV:= d9 n
def a8:AV:= .seq .ey l.length λi=> d9 (l.getD i 0)
def bj (l:List (List UInt8)):AV:= .seq .ey l.length λi=> .str (l.getD i [])
def k8:AV:= .agg [d9 i.op,d9 i.a,d9 i.b,d9 i.c,d9 i.ii,d9 i.n,d9 i.fn,d9 i.ord]
def wx (l:List aK):AV:= .seq zy l.length λi=>k8 (l.getD i dL)
def kq (v:v6):AV:= .agg [.str v.name,d9 v.init]
def eP (l:List v6):AV:= .seq dz l.length λi=>kq (l.getD i dY)
def fK (f:dK):AV:= .agg [.str f.name,wx f.code]
def cP (l:List dK):AV:= .seq dz l.length λi=>fK (l.getD i bL)
def encS (s:dc):AV:= .agg [d9 s.fn,d9 s.arg]
def mV (l:List dc):AV:= .seq dz l.length λi=>encS (l.getD i dQ)
def ah:AV:= .agg [eP p.eA,bj p.aP,bj p.kC,cP p.ef,mV p.ab]
def kT:AV:= .arr 8 λi=> d9 (l.getD i 0)
def ak:AV:= .agg [d9 t.id,d9 t.fn,d9 t.pc,kT t.aw,d9 t.io,d9 t.i7,d9 t.gH,d9 t.ip,d9 t.i9,a8 t.ic]
def aF (l:List i5):AV:= .seq zk l.length λi=>ak (l.getD i ao)
def aE (l:List (List Int)):AV:= .seq .ey l.length λi=>a8 (l.getD i [])
def aj:AV:= .agg [a8 m.eA,a8 m.aa,aE m.a6,a8 m.lT]
def cF (e:cD):AV:= .agg [d9 e.var,d9 e.val]
def bY (l:List cD):AV:= .seq dz l.length λi=>cF (l.getD i cc)
def aA:AV:= .agg [d9 b.ay,d9 b.first,bY b.bO]
def aY (l:List bR):AV:= .seq c7 l.length λi=>aA (l.getD i az)
def ze:AV:= .agg [aF s.ab,aj s.l5,aY s.ae]
def bX:AV:= .agg [d9 e.aC,d9 e.ly,d9 e.kind,d9 e.ii,d9 e.k7,d9 e.entry,d9 e.ord,d9 e.read,d9 e.i4]
def vI:AV:= .mc zy (k8 i)
def vP:AV:= .mc z7 (ah p)
def vT:AV:= .mc zk (ak t)
def vM:AV:= .mc zm (aj m)
def vB:AV:= .mc c7 (aA b)
def cx:AV:= .mc aI (ze s)
def dh:AV:= .mc bF (bX e)
def dI:AV ->Int
 | .int _ a=>a
 |_=>0
def cu:AV ->List UInt8
 | .str a=>a
 |_=>[]
def dR (d:AV ->α):AV ->List α
 | .seq _ n f | .bD _ n f=>(List.range n).map λi=>d (f i)
 |_=>[]
def dA (d:AV ->α):AV ->List α
 | .arr n f=>(List.range n).map λi=>d (f i)
 |_=>[]
def dX:AV ->aK
 | .agg [.int _ a, .int _ b, .int _ c, .int _ d, .int _ e, .int _ f, .int _ g, .int _ h]=>⟨a,b,c,d,e,f,g,h⟩
 |_=>dL
def dV:AV ->v6
 | .agg [.str s, .int _ n]=>⟨s,n⟩
 |_=>dY
def dF:AV ->dK
 | .agg [.str s,x]=>⟨s,dR dX x⟩
 |_=>bL
def dS:AV ->dc
 | .agg [.int _ a, .int _ b]=>⟨a,b⟩
 |_=>dQ
def dP:AV ->ai
 | .agg [a,b,c,d,e]=>⟨dR dV a,dR cu b,dR cu c,dR dF d,dR dS e⟩
 |_=>lX
def dT:AV ->i5
 | .agg [.int _ a, .int _ b, .int _ c,r, .int _ d, .int _ e, .int _ f, .int _ g, .int _ h,x]=>⟨a,b,c,dA dI r,d,e,f,g,h,dR dI x⟩
 |_=>ao
def dM:AV ->i8
 | .agg [a,b,c,d]=>⟨dR dI a,dR dI b,dR (dR dI) c,dR dI d⟩
 |_=>du
def dE:AV ->cD
 | .agg [.int _ a, .int _ b]=>⟨a,b⟩
 |_=>cc
def dB:AV ->bR
 | .agg [.int _ a, .int _ b,x]=>⟨a,b,dR dE x⟩
 |_=>az
def eu:AV ->ja
 | .agg [a,m,b]=>⟨dR dT a,dM m,dR dB b⟩
 |_=>mt
def jX:AV ->Ev
 | .agg [.int _ a, .int _ b, .int _ c, .int _ d, .int _ e, .int _ f, .int _ g, .int _ h, .int _ i]=>⟨a,b,c,d,e,f,g,h,i⟩
 |_=>aW
theorem zki (l:List α) (d:α):(List.range l.length).map (λi=>l.getD i d)=l:=by
 apply j5 ap;grind
theorem uf {d:AV ->α} {enc:α ->AV} {z:α} {sh:ex} (h:∀ a,d (enc a)=a) (l:List α):dR d (.seq sh l.length λi=>enc (l.getD i z))=l:=by
 simp[dR,h];exact zki l z
theorem ziq:dX (k8 i)=i:=rfl
theorem znw (i:v6):dV (kq i)=i:=rfl
theorem znx (i:dc):dS (encS i)=i:=rfl
theorem zny (i:cD):dE (cF i)=i:=rfl
theorem znz (i:Ev):jX (bX i)=i:=rfl
theorem lV:dR dI (a8 l)=l:=uf (enc:=λn=> d9 n) (λ_=>rfl) l
theorem tw (l:List (List UInt8)):dR cu (bj l)=l:=uf (enc:=λn=> .str n) (λ_=>rfl) l
theorem zzx (l:List aK):dR dX (wx l)=l:=uf ziq l
theorem Nb (l:List v6):dR dV (eP l)=l:=uf znw l
theorem zkj (f:dK):dF (fK f)=f:=by
 show(⟨f.name,dR dX (wx f.code)⟩:dK)=f;rw[zzx]
theorem OK (l:List dK):dR dF (cP l)=l:=uf zkj l
theorem zzy (l:List dc):dR dS (mV l)=l:=uf znx l
theorem zv4:dP (ah p)=p:=by
 show(⟨dR dV (eP p.eA),dR cu (bj p.aP),dR cu (bj p.kC),dR dF (cP p.ef),dR dS (mV p.ab)⟩:ai)=p;rw[Nb,tw,tw,OK,zzy]
theorem tJ {l:List Int} (h:l.length=8):dA dI (kT l)=l:=by
 show(List.range 8).map (λi=>l.getD i 0)=l;rw[<- h];exact zki l 0
theorem qQ (l:List cD):dR dE (bY l)=l:=uf zny l
theorem zkk:dB (aA b)=b:=by
 show(⟨b.ay,b.first,dR dE (bY b.bO)⟩:bR)=b;rw[qQ]
theorem Il (l:List bR):dR dB (aY l)=l:=uf zkk l
theorem Gh (l:List (List Int)):dR (dR dI) (aE l)=l:=uf (enc:=a8) lV l
theorem zo0:dM (aj m)=m:=by
 show(⟨dR dI (a8 m.eA),dR dI (a8 m.aa),dR (dR dI) (aE m.a6),dR dI (a8 m.lT)⟩:i8)=m;rw[lV,lV,Gh,lV]
theorem iz (h:t.aw.length=8):dT (ak t)=t:=by
 show(⟨t.id,t.fn,t.pc,dA dI (kT t.aw),t.io,t.i7,t.gH,t.ip,t.i9,dR dI (a8 t.ic)⟩:i5)=t;rw[tJ h,lV]
def zss:List (List UInt8):=[[99,111,110,115,116],[99,111,112,121],[99,97,108,99],[106,117,109,112],[98,114,97,110,99,104],[97,115,115,101,114,116],[115,116,111,112],[108,111,97,100],[115,116,111,114,101],[115,119,97,112],[102,101,116,99,104,97,100,100],[99,97,115],[102,101,110,99,101],[97,119,97,105,116],[108,111,99,107],[117,110,108,111,99,107],[116,114,121,108,111,99,107],[119,97,105,116],[115,105,103,110,97,108],[98,114,111,97,100,99,97,115,116],[115,112,97,119,110],[106,111,105,110]]
def sY:List (List Bool):=[[true,false,false,false,true,false,false],[true,true,false,false,false,false,false],[true,true,true,false,false,true,false],[false,false,false,false,true,false,false],[false,true,false,false,true,false,false],[false,true,false,false,false,false,false],[false,false,false,false,false,false,false],[true,false,false,true,false,false,true],[false,true,false,true,false,false,true],[true,true,false,true,false,false,true],[true,true,false,true,false,false,true],[true,true,true,true,false,false,true],[false,false,false,false,false,false,false],[true,true,false,true,false,true,true],[false,false,false,true,false,false,false],[false,false,false,true,false,false,false],[true,false,false,true,false,false,false],[false,false,false,true,true,false,false],[false,false,false,true,false,false,false],[false,false,false,true,false,false,false],[true,true,false,true,false,false,false],[false,true,false,false,false,false,false]]
def gO:ex:= .agg [.ey, .arr 7 .ey]
def cZ (op:Int) (k:Nat):Bool:=(sY.getD (op - 1).toNat []).getD k false
def iX:List (List UInt8):=[[97,100,100],[115,117,98],[109,117,108],[97,110,100],[111,114],[120,111,114],[101,113],[110,101],[108,116],[108,101]]
def bn (f:Int):List UInt8:=if f<1∨10<f then []else iX.getD (f - 1).toNat []
structure alk where
 most:Int
 order:Bool
 low:Int
 high:Int
 i4:Bool
 least:Int
 access:Int
 write:Bool
def m7:alk:=⟨0,false,0,0,false,0,0,false⟩
def au7 (r:alk):AV:= .agg [d9 r.most, .bool r.order,d9 r.low,d9 r.high, .bool r.i4,d9 r.least,d9 r.access, .bool r.write]
def m5:List alk:=[⟨7,true,-2147483648,2147483647,false,-1,1,false⟩,⟨7,true,0,0,true,-2,1,true⟩,⟨7,true,0,0,true,0,4,true⟩,⟨7,false,0,0,true,0,1,true⟩,⟨7,true,-2147483648,2147483647,true,-2,1,true⟩,⟨7,true,-2147483648,2147483647,false,-2,1,false⟩,⟨0,false,0,0,false,-2,0,false⟩,⟨7,true,-2147483648,2147483647,false,-1,1,false⟩,⟨3,false,0,0,false,-2,2,true⟩,⟨3,false,0,0,false,-2,2,true⟩,⟨3,false,0,1,false,-2,2,true⟩,⟨3,false,0,0,false,-2,3,true⟩,⟨3,false,0,0,false,-2,3,true⟩,⟨3,false,0,1,false,-2,3,true⟩,⟨3,false,0,-1,false,-2,3,true⟩,⟨-1,false,0,0,false,-2,0,false⟩,⟨-1,false,0,0,false,-2,0,false⟩]
def GG:List (Nat×AV):=[
 (1, .bo (.arr 22 gO) (.arr 22 λi=> .agg [.str (zss.getD i []), .arr 7 λk=> .bool ((sY.getD i []).getD k false)])),
 (2, .bo (.arr 10 .ey) (.arr 10 λi=> .str (iX.getD i [])))]
def GE:List (Nat×AV):=(0, .bo (.arr 17 zy) (.arr 17 λi=>au7 (m5.getD i m7)))::GG
def TT:List (Nat×cN):=[
 (3,⟨.ey,d9 0,8, .int .i64,false⟩),
 (4,⟨.ey, .bool false,1, .bool,false⟩),
 (5,⟨.ey, .int .u8 0,1, .int .u8,false⟩),
 (9,⟨.ey, .str [],16, .string,false⟩),
 (21,⟨.ey, .int .i32 0,4, .int .i32,false⟩),
 (208,⟨.ey, .int .u32 0,4, .int .u32,false⟩),
 (39,⟨.ey,d9 0,8, .int .i64,false⟩),
 (48,⟨.ey,d9 0,8, .int .i64,false⟩),
 (49,⟨.ey,d9 0,8, .int .i64,false⟩),
 (54,⟨.ey,d9 0,8, .int .i64,false⟩),
 (55,⟨.ey,d9 0,8, .int .i64,false⟩),
 (89,⟨.ey,d9 0,8, .int .i64,false⟩),
 (90,⟨.ey,d9 0,8, .int .i64,false⟩),
 (22,⟨.ey, .ax,24, .slice 114,false⟩),
 (23,⟨.ey, .ax,24, .slice 9,false⟩),
 (183,⟨.ey, .ax,24, .slice 23,false⟩),
 (24,⟨.ey, .ax,24, .slice 65,false⟩),
 (25,⟨.ey, .ax,24, .slice 85,false⟩),
 (63,⟨.ey, .ax,24, .slice 92,false⟩),
 (28,⟨.ey, .ax,24, .slice 51,false⟩),
 (33,⟨.ey, .ax,24, .slice 68,false⟩),
 (66,⟨.ey, .ax,24, .slice 118,false⟩),
 (29,⟨.ey, .ax,24, .slice 3,false⟩),
 (30,⟨.ey, .ax,24, .slice 29,false⟩),
 (114,⟨dz, .agg [.str [],d9 0],24, .struct [9,3],true⟩),
 (92,⟨zy, .agg [d9 0,d9 0,d9 0,d9 0,d9 0,d9 0,d9 0,d9 0],64, .struct [89,3,3,3,3,3,90,55],true⟩),
 (65,⟨dz, .agg [.str [], .ax],40, .struct [9,63],false⟩),
 (85,⟨dz, .agg [d9 0,d9 0],16, .struct [3,3],true⟩),
 (27,⟨z7, .agg [.ax, .ax, .ax, .ax, .ax],120, .struct [22,23,23,24,25],false⟩),
 (47,⟨.arr 8 .ey, .arr 8 (λ_=> d9 0),64, .arr 8 3,true⟩),
 (234,⟨.arr 7 .ey, .arr 7 (λ_=> d9 0),56, .arr 7 3,false⟩),
 (216,⟨.arr 4 .ey, .arr 4 (λ_=> d9 0),32, .arr 4 3,false⟩),
 (240,⟨.arr 10 .ey, .arr 10 (λ_=> .str []),160, .arr 10 9,false⟩),
 (226,⟨gO, .agg [.str [], .arr 7 (λ_=> .bool false)],24, .struct [9,224],false⟩),
 (227,⟨.arr 22 gO, .arr 22 (λ_=> .agg [.str [], .arr 7 (λ_=> .bool false)]),528, .arr 22 226,false⟩),
 (236,⟨.arr 3 .ey, .arr 3 (λ_=> d9 0),24, .arr 3 3,false⟩),
 (224,⟨.arr 7 .ey, .arr 7 (λ_=> .bool false),7, .arr 7 4,false⟩),
 (51,⟨zk, .agg [d9 0,d9 0,d9 0, .arr 8 (λ_=> d9 0),d9 0,d9 0,d9 0,d9 0,d9 0, .ax],152,
  .struct [3,3,3,47,3,3,48,49,39,29],false⟩),
 (32,⟨zm, .agg [.ax, .ax, .ax, .ax],96, .struct [29,29,30,29],false⟩),
 (68,⟨c7, .agg [d9 0,d9 0, .ax],40, .struct [3,3,66],false⟩),
 (118,⟨dz, .agg [d9 0,d9 0],16, .struct [3,3],true⟩),
 (35,⟨aI, .agg [.ax, .agg [.ax, .ax, .ax, .ax], .ax],144, .struct [28,32,33],false⟩),
 (57,⟨bF, .agg [d9 0,d9 0,d9 0,d9 0,d9 0,d9 0,d9 0,d9 0,d9 0],72,
  .struct [3,3,54,3,3,3,55,3,3],true⟩),
 (108,⟨.ey,d9 0,8, .int .i64,false⟩),
 (202,⟨.ey, .ax,24, .slice 205,false⟩),
 (206,⟨.ey, .ax,24, .slice 4,false⟩),
 (205,⟨zm, .agg [d9 0,d9 0,d9 0, .bool false],32, .struct [108,3,3,4],true⟩),
 (110,⟨zy, .agg [d9 0, .bool false,d9 0,d9 0, .bool false,d9 0,d9 0, .bool false],64, .struct [3,4,3,3,4,3,108,4],false⟩),
 (111,⟨.arr 17 zy, .arr 17 (λ_=> .agg [d9 0, .bool false,d9 0,d9 0, .bool false,d9 0,d9 0, .bool false]),1088, .arr 17 110,false⟩),
 (150,⟨dz, .agg [d9 0,d9 0],16, .struct [3,3],true⟩),
 (102,⟨.agg [aI, .ey], .agg [.agg [.ax, .agg [.ax, .ax, .ax, .ax], .ax],d9 0],152, .struct [35,3],false⟩)]
theorem za {n:Int} (e: -9223372036854775808<=n) (h2:n<=9223372036854775807):aM .i64 n:=by
 show(if(true&&decide (n % 18446744073709551616>=9223372036854775808))=true then n % 18446744073709551616 - 18446744073709551616 else n % 18446744073709551616)=n;rw[wc];by_cases h:n % 18446744073709551616>=9223372036854775808;rw[wy h,x9 rfl];omega;rw[jn h,x8 ap];omega
theorem f9 {n:Int} (e: -9223372036854775808<=n:=by omega) (h2:n<=9223372036854775807:=by omega):aM .i64 n:=za e h2
theorem lO (l:List α) (p:α ->Bool) (d:α):l.all p=true↔∀ i,i<l.length ->p (l.getD i d)=true:=by
 rw[yu];constructor;grind;intro h x e;obtain⟨i,f,rfl⟩:=List.mem_iff_getElem.1 e;grind
theorem zb7 (l:List α) (p:α ->Bool) (d:α):l.any p=true↔∃ i,i<l.length/\p (l.getD i d)=true:=by
 rw[List.any_eq_true];constructor;rintro⟨x,h,f⟩;obtain⟨i,e,rfl⟩:=List.mem_iff_getElem.1 h;exact⟨i,e,by simpa [e]using f⟩;rintro⟨i,e,f⟩;exact⟨l[i],wm e,by simpa [e]using f⟩
theorem uF {a b:List α} {d:α} (hl:a.length=b.length) (h:∀ j,j<a.length ->a.getD j d=b.getD j d):a=b:=by
 apply j5 hl;grind
theorem eI {p:Bool} (h:p=true ->False):false=p:=by cases p;rfl;exact(h rfl).elim
theorem XJ {p:Bool} (h:p=false ->False):true=p:=by cases p;exact(h rfl).elim;rfl
theorem zdz (n:Nat) (f:Nat ->AV):aq (.seq sh n f)= .seq sh n f:=rfl
theorem ze0 (k:IntKind) (n:Int):aq (.int k n)= .int k n:=rfl
theorem ze1 (l:List UInt8):aq (.str l)= .str l:=rfl
theorem ab1 {a b:Prop}:(a ->b ->a/\b)↔True:=⟨λ_=>trivial,λ_ x y=>⟨x,y⟩⟩
theorem sI:ex.agg [ex.ey,ex.ey,ex.ey,ex.ey,ex.ey,ex.ey,ex.ey,ex.ey]=zy:=rfl
theorem s2:ex.agg [ex.ey,ex.ey]=dz:=rfl
theorem s3:ex.agg [ex.ey,ex.ey,ex.ey]=c7:=rfl
theorem s4:ex.agg [ex.ey,ex.ey,ex.ey,ex.ey]=zm:=rfl
theorem s5:ex.agg [ex.ey,ex.ey,ex.ey,ex.ey,ex.ey]=z7:=rfl
theorem s9:ex.agg [ex.ey,ex.ey,ex.ey,ex.ey,ex.ey,ex.ey,ex.ey,ex.ey,ex.ey]=bF:=rfl
theorem sT:ex.agg [ex.ey,ex.ey,ex.ey,ex.arr 8 ex.ey,ex.ey,ex.ey,ex.ey,ex.ey,ex.ey,ex.ey]=zk:=rfl
theorem sS:ex.agg [ex.ey,zm,ex.ey]=aI:=rfl
theorem rI:(AV.seq ex.ey l.length λi=>AV.int IntKind.i64 (l.getD i 0))=a8 l:=rfl
theorem rS (l:List (List UInt8)):(AV.seq ex.ey l.length λi=>AV.str (l.getD i []))=bj l:=rfl
theorem rIn (l:List aK):(AV.seq zy l.length λi=>k8 (l.getD i dL))=wx l:=rfl
theorem rV (l:List v6):(AV.seq dz l.length λi=>kq (l.getD i dY))=eP l:=rfl
theorem rF (l:List dK):(AV.seq dz l.length λi=>fK (l.getD i bL))=cP l:=rfl
theorem rSt (l:List dc):(AV.seq dz l.length λi=>encS (l.getD i dQ))=mV l:=rfl
theorem rT (l:List i5):(AV.seq zk l.length λi=>ak (l.getD i ao))=aF l:=rfl
theorem rQ (l:List (List Int)):(AV.seq ex.ey l.length λi=>a8 (l.getD i []))=aE l:=rfl
theorem rE (l:List cD):(AV.seq dz l.length λi=>cF (l.getD i cc))=bY l:=rfl
theorem rB (l:List bR):(AV.seq c7 l.length λi=>aA (l.getD i az))=aY l:=rfl
theorem fI:AV.agg [AV.int IntKind.i64 i.op,AV.int IntKind.i64 i.a,AV.int IntKind.i64 i.b,AV.int IntKind.i64 i.c,AV.int IntKind.i64 i.ii,AV.int IntKind.i64 i.n,AV.int IntKind.i64 i.fn,AV.int IntKind.i64 i.ord]=k8 i:=rfl
theorem fV (i:v6):AV.agg [AV.str i.name,AV.int IntKind.i64 i.init]=kq i:=rfl
theorem fF (i:dK):AV.agg [AV.str i.name,wx i.code]=fK i:=rfl
theorem fS (i:dc):AV.agg [AV.int IntKind.i64 i.fn,AV.int IntKind.i64 i.arg]=encS i:=rfl
theorem fP:AV.agg [eP p.eA,bj p.aP,bj p.kC,cP p.ef,mV p.ab]=ah p:=rfl
theorem fA:(AV.arr 8 λi=>AV.int IntKind.i64 (l.getD i 0))=kT l:=rfl
theorem fT:AV.agg [AV.int IntKind.i64 t.id,AV.int IntKind.i64 t.fn,AV.int IntKind.i64 t.pc,kT t.aw,AV.int IntKind.i64 t.io,AV.int IntKind.i64 t.i7,AV.int IntKind.i64 t.gH,AV.int IntKind.i64 t.ip,AV.int IntKind.i64 t.i9,a8 t.ic]=ak t:=rfl
theorem fM:AV.agg [a8 m.eA,a8 m.aa,aE m.a6,a8 m.lT]=aj m:=rfl
theorem fE (e:cD):AV.agg [AV.int IntKind.i64 e.var,AV.int IntKind.i64 e.val]=cF e:=rfl
theorem fB:AV.agg [AV.int IntKind.i64 b.ay,AV.int IntKind.i64 b.first,bY b.bO]=aA b:=rfl
theorem fSt:AV.agg [aF s.ab,aj s.l5,aY s.ae]=ze s:=rfl
theorem fEv:AV.agg [AV.int IntKind.i64 e.aC,AV.int IntKind.i64 e.ly,AV.int IntKind.i64 e.kind,AV.int IntKind.i64 e.ii,AV.int IntKind.i64 e.k7,AV.int IntKind.i64 e.entry,AV.int IntKind.i64 e.ord,AV.int IntKind.i64 e.read,AV.int IntKind.i64 e.i4]=bX e:=rfl
noncomputable def eM (n:Nat):ls:={P:=prog,T:=TT,G:=GG,vH:=false,ntmps:=n}
theorem zq (n:Nat):gn (eM n):=ll (ac)
def RR.{u} {α:Sort u} (a:α):Prop:=a=a
def RW (n:Nat) (f:Nat ->AV):Prop:=RR sh/\RR n/\∀ i:Nat,i<n ->RR (f i)
def RI:Prop:=RR IntKind.i64/\RR n
theorem Yn.{u} {α:Sort u} (a:α):RR a↔True:=⟨λ_=>trivial,λ_=>rfl⟩
theorem Yf (n:Nat) (f:Nat ->AV):RW sh n f↔True:=⟨λ_=>trivial,λ_=>⟨rfl,rfl,λ_ _=>rfl⟩⟩
theorem Yu:RI n↔True:=⟨λ_=>trivial,λ_=>⟨rfl,rfl⟩⟩
theorem SB:type_of% @wg/\type_of% @w6/\type_of% @w8.{0}/\type_of% @w8.{1}/\type_of% @gp/\type_of% @xk/\type_of% @xa/\type_of% @xg/\type_of% @xy/\type_of% @xi/\type_of% @xd/\type_of% @xh/\type_of% @y8/\type_of% @imp_self/\type_of% @xo.{0}/\type_of% @xp.{0}/\type_of% @gz.{0}/\type_of% @w9.{0}/\type_of% @ne_eq.{1}/\type_of% @ye/\type_of% @zdz/\type_of% @ze0/\type_of% @ze1/\type_of% @Int.ofNat_lt/\type_of% @Int.ofNat_le/\type_of% @Int.natCast_nonneg/\type_of% @xm/\type_of% @Nat.one_mul/\type_of% @false_implies/\type_of% @ab1/\type_of% @Int.toNat_zero/\type_of% @Int.toNat_one/\type_of% @sI/\type_of% @s2/\type_of% @s3/\type_of% @s4/\type_of% @s5/\type_of% @s9/\type_of% @sT/\type_of% @sS/\type_of% @rI/\type_of% @rS/\type_of% @rIn/\type_of% @rV/\type_of% @rF/\type_of% @rSt/\type_of% @rT/\type_of% @rQ/\type_of% @rE/\type_of% @rB/\type_of% @fI/\type_of% @fV/\type_of% @fF/\type_of% @fS/\type_of% @fP/\type_of% @fA/\type_of% @fT/\type_of% @fM/\type_of% @fE/\type_of% @fB/\type_of% @fSt/\type_of% @fEv/\type_of% @ziq/\type_of% @znw/\type_of% @znx/\type_of% @zny/\type_of% @znz/\type_of% @lV/\type_of% @tw/\type_of% @zzx/\type_of% @Nb/\type_of% @zkj/\type_of% @OK/\type_of% @zzy/\type_of% @zv4/\type_of% @qQ/\type_of% @zkk/\type_of% @Il/\type_of% @Gh/\type_of% @zo0/\type_of% @Int.sub_zero/\type_of% @xw/\type_of% @Yn.{1}/\type_of% @Yf/\type_of% @Yu:=
 ⟨@wg,@w6,@w8.{0},@w8.{1},@gp,@xk,@xa,@xg,@xy,@xi,@xd,@xh,@y8,@imp_self,@xo.{0},@xp.{0},@gz.{0},@w9.{0},@ne_eq.{1},@ye,@zdz,@ze0,@ze1,@Int.ofNat_lt,@Int.ofNat_le,@Int.natCast_nonneg,@xm,@Nat.one_mul,@false_implies,@ab1,@Int.toNat_zero,@Int.toNat_one,@sI,@s2,@s3,@s4,@s5,@s9,@sT,@sS,@rI,@rS,@rIn,@rV,@rF,@rSt,@rT,@rQ,@rE,@rB,@fI,@fV,@fF,@fS,@fP,@fA,@fT,@fM,@fE,@fB,@fSt,@fEv,@ziq,@znw,@znx,@zny,@znz,@lV,@tw,@zzx,@Nb,@zkj,@OK,@zzy,@zv4,@qQ,@zkk,@Il,@Gh,@zo0,@Int.sub_zero,@xw,@Yn.{1},@Yf,@Yu⟩
def LT (x:AV):Prop:=LS x x
theorem XR (x:AV):LT x↔True:=iL x
theorem abh (a b:List Int):LS (a8 a) (a8 b)↔a.length=b.length/\∀ i:Nat,i<a.length ->d9 (a.getD i 0)=d9 (b.getD i 0):=gf (ac)
theorem abj (a b:List (List UInt8)):LS (bj a) (bj b)↔a.length=b.length/\∀ i:Nat,i<a.length ->AV.str (a.getD i [])=AV.str (b.getD i []):=gf (ac)
theorem zv5 (a b:List aK):LS (wx a) (wx b)↔a.length=b.length/\∀ i:Nat,i<a.length ->k8 (a.getD i dL)=k8 (b.getD i dL):=gf (ac)
theorem Y4 (a b:List v6):LS (eP a) (eP b)↔a.length=b.length/\∀ i:Nat,i<a.length ->kq (a.getD i dY)=kq (b.getD i dY):=gf (ac)
theorem aaq (a b:List dK):LS (cP a) (cP b)↔a.length=b.length/\∀ i:Nat,i<a.length ->fK (a.getD i bL)=fK (b.getD i bL):=gf (ac)
theorem zv6 (a b:List dc):LS (mV a) (mV b)↔a.length=b.length/\∀ i:Nat,i<a.length ->encS (a.getD i dQ)=encS (b.getD i dQ):=gf (ac)
theorem aa4 (a b:List i5):LS (aF a) (aF b)↔a.length=b.length/\∀ i:Nat,i<a.length ->ak (a.getD i ao)=ak (b.getD i ao):=gf (ac)
theorem z141 (a b:List (List Int)):LS (aE a) (aE b)↔a.length=b.length/\∀ i:Nat,i<a.length ->a8 (a.getD i [])=a8 (b.getD i []):=gf (ac)
theorem aa0 (a b:List cD):LS (bY a) (bY b)↔a.length=b.length/\∀ i:Nat,i<a.length ->cF (a.getD i cc)=cF (b.getD i cc):=gf (ac)
theorem z143 (a b:List bR):LS (aY a) (aY b)↔a.length=b.length/\∀ i:Nat,i<a.length ->aA (a.getD i az)=aA (b.getD i az):=gf (ac)
theorem aai (a b:i8):LS (aj a) (aj b)↔(a.eA.length=b.eA.length/\∀ i:Nat,i<a.eA.length ->d9 (a.eA.getD i 0)=d9 (b.eA.getD i 0))/\(a.aa.length=b.aa.length/\∀ i:Nat,i<a.aa.length ->d9 (a.aa.getD i 0)=d9 (b.aa.getD i 0))/\(a.a6.length=b.a6.length/\∀ i:Nat,i<a.a6.length ->a8 (a.a6.getD i [])=a8 (b.a6.getD i []))/\a.lT.length=b.lT.length/\∀ i:Nat,i<a.lT.length ->d9 (a.lT.getD i 0)=d9 (b.lT.getD i 0):=gf (ac)
theorem z145 (a b:i5):LS (ak a) (ak b)↔a.id=b.id/\a.fn=b.fn/\a.pc=b.pc/\(∀ i:Nat,d9 (a.aw.getD i 0)=d9 (b.aw.getD i 0))/\a.io=b.io/\a.i7=b.i7/\a.gH=b.gH/\a.ip=b.ip/\a.i9=b.i9/\a.ic.length=b.ic.length/\∀ i:Nat,i<a.ic.length ->d9 (a.ic.getD i 0)=d9 (b.ic.getD i 0):=gf (ac)
theorem z146 (a b:aK):LS (k8 a) (k8 b)↔a.op=b.op/\a.a=b.a/\a.b=b.b/\a.c=b.c/\a.ii=b.ii/\a.n=b.n/\a.fn=b.fn/\a.ord=b.ord:=gf (ac)
theorem zv7 (a b:Ev):LS (bX a) (bX b)↔a.aC=b.aC/\a.ly=b.ly/\a.kind=b.kind/\a.ii=b.ii/\a.k7=b.k7/\a.entry=b.entry/\a.ord=b.ord/\a.read=b.read/\a.i4=b.i4:=gf (ac)
theorem aba (a b:bR):LS (aA a) (aA b)↔a.ay=b.ay/\a.first=b.first/\a.bO.length=b.bO.length/\∀ i:Nat,i<a.bO.length ->cF (a.bO.getD i cc)=cF (b.bO.getD i cc):=gf (ac)
theorem z148 (a b:ai):LS (ah a) (ah b)↔(a.eA.length=b.eA.length/\∀ i:Nat,i<a.eA.length ->kq (a.eA.getD i dY)=kq (b.eA.getD i dY))/\(a.aP.length=b.aP.length/\∀ i:Nat,i<a.aP.length ->AV.str (a.aP.getD i [])=AV.str (b.aP.getD i []))/\(a.kC.length=b.kC.length/\∀ i:Nat,i<a.kC.length ->AV.str (a.kC.getD i [])=AV.str (b.kC.getD i []))/\(a.ef.length=b.ef.length/\∀ i:Nat,i<a.ef.length ->fK (a.ef.getD i bL)=fK (b.ef.getD i bL))/\a.ab.length=b.ab.length/\∀ i:Nat,i<a.ab.length ->encS (a.ab.getD i dQ)=encS (b.ab.getD i dQ):=gf (ac)
theorem zv8 (a b:ja):LS (ze a) (ze b)↔(a.ab.length=b.ab.length/\∀ i:Nat,i<a.ab.length ->ak (a.ab.getD i ao)=ak (b.ab.getD i ao))/\((a.l5.eA.length=b.l5.eA.length/\∀ i:Nat,i<a.l5.eA.length ->d9 (a.l5.eA.getD i 0)=d9 (b.l5.eA.getD i 0))/\(a.l5.aa.length=b.l5.aa.length/\∀ i:Nat,i<a.l5.aa.length ->d9 (a.l5.aa.getD i 0)=d9 (b.l5.aa.getD i 0))/\(a.l5.a6.length=b.l5.a6.length/\∀ i:Nat,i<a.l5.a6.length ->a8 (a.l5.a6.getD i [])=a8 (b.l5.a6.getD i []))/\a.l5.lT.length=b.l5.lT.length/\∀ i:Nat,i<a.l5.lT.length ->d9 (a.l5.lT.getD i 0)=d9 (b.l5.lT.getD i 0))/\a.ae.length=b.ae.length/\∀ i:Nat,i<a.ae.length ->aA (a.ae.getD i az)=aA (b.ae.getD i az):=gf (ac)
theorem SX:type_of% @abh/\type_of% @abj/\type_of% @zv5/\type_of% @Y4/\type_of% @aaq/\type_of% @zv6/\type_of% @aa4/\type_of% @z141/\type_of% @aa0/\type_of% @z143/\type_of% @aai/\type_of% @z145/\type_of% @z146/\type_of% @zv7/\type_of% @aba/\type_of% @z148/\type_of% @zv8/\type_of% @XR:=
 ⟨@abh,@abj,@zv5,@Y4,@aaq,@zv6,@aa4,@z141,@aa0,@z143,@aai,@z145,@z146,@zv7,@aba,@z148,@zv8,@XR⟩
theorem zo1 {h e:List (Nat×ar)} {x:AV}:AV.le h e x x:=fH _ _ _ _ (le_refl _ _ x)
theorem aa5 {C:ls} (f:C.P=prog) (e:C.T=TT):gn C:=by
 cases C;cases f;cases e;exact ll (ac)
theorem Kn (V:bm) {G:List (Nat×AV)} {f:FuncId} {fn:Func} {args:List AV} {r:AV} (x:prog.funcs[f]? =some fn) (N:Prop) (h:N) (e:tm V fn args r=N:=by kernel_rfl)
 (j : ((fn.name == "runtime.NumGoroutine") || fn.body.isNone || !Nat.beq fn.ntmps V.C.ntmps || !Nat.ble args.length V.C.ntmps) = false := by kernel_rfl)
 (i:V.C.P=prog:=by exact rfl) (y:V.C.T=TT:=by exact rfl) (k:V.C.G=G:=by exact rfl) (F:V.CC=mp prog G:=by exact rfl)
 (E:∀ f m r u,V.C.nU f m r u ->c6 prog G f m r u:=by first |exact λ_ _ _ _ h=>False.elim h |exact λ_ _ _ _ h=>h):mp prog G f args r:=by
 have :=mp.of (V:=V) (i ▸ x) j (aa5 i y) (by rw[F,i,k]) (e ▸ h) (by rw[i,k];exact E);grind
theorem nc (V:bm) {G:List (Nat×AV)} {f:FuncId} {fn:Func} {args:List AV} {r:AV} {i:List ar} (x:prog.funcs[f]? =some fn) (N:Prop) (h:N) (e:z6v V fn args r i=N:=by kernel_rfl)
 (k : ((fn.name == "runtime.NumGoroutine") || fn.body.isNone || !Nat.beq fn.ntmps V.C.ntmps || !Nat.ble args.length V.C.ntmps) = false := by kernel_rfl)
 (j:V.C.P=prog:=by exact rfl) (y:V.C.T=TT:=by exact rfl) (m:V.C.G=G:=by exact rfl) (F:V.CC=mp prog G:=by exact rfl)
 (E:∀ f u r i,V.C.nU f u r i ->c6 prog G f u r i:=by first |exact λ_ _ _ _ h=>False.elim h |exact λ_ _ _ _ h=>h):c6 prog G f args r i:=by
 have :=c6.of (V:=V) (j ▸ x) k (aa5 j y) (by rw[F,j,m]) (e ▸ h) (by rw[j,m];exact E);grind
theorem zkl (i:Int) (n:Nat):af i n↔0<=i/\i<(n:Int):=Iff.rfl
theorem SZ:type_of% @SB/\type_of% @SX/\type_of% @zkl:=⟨SB,SX,zkl⟩
def iv (n:Nat) (S:Nat ->St):Option lm:=some {ι:=Nat,S:=S,μ:=λi=>n - i,ok:=λi=>i<=n}
def iw (n:Nat) (S:Nat ->St) (P:Nat ->Prop):Option lm:=some {ι:=Nat,S:=S,μ:=λi=>n - i,ok:=λi=>i<=n/\P i}
abbrev KN (f:FuncId) (a:List AV) (r:AV):Prop:=mp prog GG f a r
abbrev KF (f:FuncId) (a:List AV) (r:AV) (c:List ar):Prop:=c6 prog GG f a r c
def wr:Int:=(n+2147483648) % 4294967296 - 2147483648
def jz (b:Bool):Int:=bif b then 1 else 0
def low:Nat:=(n % 4294967296).toNat
def TB (g:Nat ->Nat ->Nat) (x y:Int):Int:=wr (g (low x) (low y):Nat)
def app (f a b:Int):Int×Int:=
 if f=1 then(wr (wr a+wr b),0)
 else if f=2 then(wr (wr a - wr b),0)
 else if f=3 then(wr (wr a*wr b),0)
 else if f=4 then(TB (· &&& ·) a b,0)
 else if f=5 then(TB (· ||| ·) a b,0)
 else if f=6 then(TB (· ^^^ ·) a b,0)
 else if f=7 then(jz (wr a==wr b),0)
 else if f=8 then(jz (wr a !=wr b),0)
 else if f=9 then(jz (decide (wr a<wr b)),0)
 else if f=10 then(jz (decide (wr a<=wr b)),0)
 else(0,8)
def iE (r:Nat ->Int) (X Y:Nat):Nat ->Int
 |0=>0
 |n+1=>iE r X Y n+2 ^ n*r (2*(X/2 ^ n % 2)+Y/2 ^ n % 2)
def spV:FuncId ->List AV ->Option AV
 |138,[.int _ n] |209,[.int _ n]=>some (d9 (wr n))
 |230,[.bool b] |211,[.bool b]=>some (d9 (jz b))
 |180,[.int _ f, .int _ a, .int _ b] |150,[.int _ f, .int _ a, .int _ b]=>some (.av [d9 (app f a b).1,d9 (app f a b).2])
 |210,[.int _ x, .int _ y, .mc _ (.arr _ r)]=>some (d9 (wr (iE (λi=>dI (r i)) (low x) (low y) 32)))
 |249,[.int _ f] |217,[.int _ f]=>some (.str (bn f))
 |_,_=>none
noncomputable def vV (n:Nat) (inv:Nat ->Option lm):bm:={C:=eM n,CC:=mp prog GG,b9:=λ_ _=>spV,inv:=inv}
def zkm (x y:Int) (r:Nat ->Int) (k:Nat):Option lm:=match Nat.beq k 8 with
 |true=>iv 32 λi=>⟨[(0,d9 ((low x/2 ^ i:Nat):Int)),(1,d9 ((low y/2 ^ i:Nat):Int)),(5, .ptr 5 []),(7,d9 (iE r (low x) (low y) i)),(8,d9 (2 ^ i)),(9,d9 i)],[(5, .cell 216 (.arr 4 .ey) (.arr 4 λi=> d9 (r i)))]⟩
 |false=>none
end
end Go.Proofs.S25
