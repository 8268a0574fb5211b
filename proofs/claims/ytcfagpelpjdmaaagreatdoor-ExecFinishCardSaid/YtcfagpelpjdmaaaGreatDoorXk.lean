import Derived.Test.YtcfagpelpjdmaaaGreatDoorXj
import Derived.Test.YtcfagpelpjdmaaaGreatDoorProg
import Derived.KernelRfl
namespace Go.AV
open Go.RowKit
mutual
def frzK (ks:List Nat) (h:List (Nat×BoxC)):AV ->Option (AV×List Prop)
 | .own b n=>match inN b ks with
  |true=>some (.own b n,[])
  |false=>frz h (.own b n)
 | .ptr b p=>match inN b ks with
  |true=>some (.ptr b p,[])
  |false=>frz h (.ptr b p)
 | .optr b i p=>match inN b ks with
  |true=>some (.optr b i p,[])
  |false=>frz h (.optr b i p)
 | .agg l=>match zmq ks h l with |some (m,ps)=>some (.agg m,ps) |none=>none
 | .mc sh x=>match frzK ks h x with |some (y,ps)=>some (.mc sh y,ps) |none=>none
 | .tup l=>match zmq ks h l with |some (m,ps)=>some (.tup m,ps) |none=>none
 |x=>frz h x
def zmq (ks:List Nat) (h:List (Nat×BoxC)):List AV ->Option (List AV×List Prop)
 | []=>some ([],[])
 |x::l=>match frzK ks h x,zmq ks h l with
  |some (y,ps),some (m,qs)=>some (y::m,ps++qs)
  |_,_=>none
end
mutual
def zde:AV ->AV ->List (Nat×Nat)
 | .own b _, .own i _=>[(i,b)]
 | .agg l, .agg m=>znv l m
 | .tup l, .tup m=>znv l m
 | .mc _ x, .mc _ y=>zde x y
 |_,_=>[]
def znv:List AV ->List AV ->List (Nat×Nat)
 |x::l,y::m=>zde x y++znv l m
 |_,_=>[]
end
def nameF (prs:List (Nat×Nat)) (i:Nat):Nat:=match get prs i with |some b=>b |none=>1048576+i
def z7z (prs:List (Nat×Nat)):Nat ->List BoxC ->List (Nat×BoxC)
 |_,[]=>[]
 |i,c::cs=>(nameF prs i,c)::z7z prs (i+1) cs
def zcf:List BoxC ->Bool
 | []=>true
 |c::cs=>c.isRow&&zcf cs
def z99:List (Nat×BoxC) ->List Nat
 | []=>[]
 | (k,_)::l=>k::z99 l
def zv3 (C:Cfg) (st:St) (rs:List ResultVar) (r:AV) (cs:List BoxC):Option (List Prop×St×St):=
 match zf4 C st rs with
 |some l=>match z86 (z99 (z7z (zde (z8j l) r) 0 cs))&&(z5o (below cs.length) r&&zcf cs),frzK (z99 (z7z (zde (z8j l) r) 0 cs)) (z38 (z99 (z7z (zde (z8j l) r) 0 cs)) st.heap) (z8j l)with
  |true,some (m,ps)=>some (ps,⟨[(0,m)],z2l (z99 (z7z (zde (z8j l) r) 0 cs)) st.heap⟩,⟨[(0,r.sub (nameF (zde (z8j l) r)))],z7z (zde (z8j l) r) 0 cs⟩)
  |_,_=>none
 |none=>none
def zin (V:VCtx) (fn:Func) (r:AV) (cs:List BoxC) (e:Exit) (st:St):Prop:=
 match e with
 | .ret | .normal=>match zv3 V.C st fn.results.toList r cs with
  |some (ps,s1,s2)=>conj ps (St.leP s1 s2)
  |none=>False
 |_=>False
def z6v (V:VCtx) (fn:Func) (args:List AV) (r:AV) (cs:List BoxC):Prop:=
 match fn.body with
 |some c=>vc V c ⟨z87 0 args,[]⟩ (zin V fn r cs)
 |none=>False
section
variable {C:Cfg} {W0:Entry} {F0:Nat ->Prop} {st st':St} {a:Act} {w:World} {F:Nat ->Prop} {φ:Nat ->Place}
mutual
theorem zf7 {ks:List Nat} {st:St} (h:Rel C W0 F0 st a w F φ):∀ (x y:AV) (ps:List Prop),frzK ks st.heap x=some (y,ps) ->(∀ p∈ps,p) ->
 (∀ v,Rep w F φ v x ->Rep w (Lent st F φ) φ v y)/\(∀ sh j v,Rep w F φ v (z6 sh x j) ->Rep w (Lent st F φ) φ v (z6 sh y j))
 | .own b n,y,ps,hf,hps=>by
  simp only[frzK]at hf
  split at hf
  . cases hf
    exact⟨fun v hv=>hv.keep (fun _ _=>rfl) (fun k hk=> .inl hk) fun _ _=>rfl,fun sh j v hv=>hv.keep (fun _ _=>rfl) (fun k hk=> .inl hk) fun _ _=>rfl⟩
  . obtain⟨h1,h2⟩:=z5p h _ _ _ hf hps
    exact⟨fun v hv=> .stat (h1 v hv),fun sh j v hv=> .stat (h2 sh j v hv)⟩
 | .ptr b p,y,ps,hf,hps=>by
  simp only[frzK]at hf
  split at hf
  . cases hf
    exact⟨fun v hv=>hv.keep (fun _ _=>rfl) (fun k hk=> .inl hk) fun _ _=>rfl,fun sh j v hv=>hv.keep (fun _ _=>rfl) (fun k hk=> .inl hk) fun _ _=>rfl⟩
  . obtain⟨h1,h2⟩:=z5p h _ _ _ hf hps
    exact⟨fun v hv=> .stat (h1 v hv),fun sh j v hv=> .stat (h2 sh j v hv)⟩
 | .optr b i p,y,ps,hf,hps=>by
  simp only[frzK]at hf
  split at hf
  . cases hf
    exact⟨fun v hv=>hv.keep (fun _ _=>rfl) (fun k hk=> .inl hk) fun _ _=>rfl,fun sh j v hv=>hv.keep (fun _ _=>rfl) (fun k hk=> .inl hk) fun _ _=>rfl⟩
  . obtain⟨h1,h2⟩:=z5p h _ _ _ hf hps
    exact⟨fun v hv=> .stat (h1 v hv),fun sh j v hv=> .stat (h2 sh j v hv)⟩
 | .agg l,y,ps,hf,hps=>by
  simp only[frzK]at hf
  split at hf
  case h_2=>cases hf
  rename_i m qs hm
  cases hf
  refine⟨fun v hv=>(by cases hv with |stat hv=>cases hv),fun s j v hv=>?_⟩
  cases s with
  |leaf=>simp only[z6,z1g,AV.isOne]at hv ⊢;exact .stat (.any _ (hv.one rfl))
  |agg ss=>simp only[z6]at hv ⊢;exact(zcg h l m ps hm hps).2 ss j v hv
  |arr n s=>simp only[z6]at hv ⊢;exact .stat (.any _ (hv.one rfl))
 | .mc sh x,y,ps,hf,hps=>by
  simp only[frzK]at hf
  split at hf
  case h_2=>cases hf
  rename_i z qs hz
  cases hf
  obtain⟨_,k2⟩:=zf7 h x z ps hz hps
  refine⟨fun v hv=>?_,fun s' j v hv=>?_⟩
  . obtain⟨cs,rfl,hsz,hr⟩:=hv.mc_inv
    exact .mc cs sh z hsz fun j hj=>k2 sh j _ (hr j hj)
  . cases s' with
    |leaf=>simp only[z6,z1g,AV.isOne]at hv ⊢;exact .stat (.any _ (hv.one rfl))
    |agg ss=>simp only[z6]at hv ⊢;exact .stat (.any _ (hv.one rfl))
    |arr m s=>simp only[z6]at hv ⊢;exact .stat (.any _ (hv.one rfl))
 | .tup l,y,ps,hf,hps=>by
  simp only[frzK]at hf
  split at hf
  case h_2=>cases hf
  rename_i m qs hm
  cases hf
  obtain⟨⟨k0,k1⟩,k2⟩:=zcg h l m ps hm hps
  refine⟨fun v hv=>?_,fun s j v hv=>?_⟩
  . cases hv with
    |stat hv=>cases hv
    |tup vs _ h1 h2=>exact .tup vs m (by omega) fun j hj=>k1 j hj _ (h2 j (by omega))
  . cases s with
    |leaf=>simp only[z6,z1g,AV.isOne]at hv ⊢;exact .stat (.any _ (hv.one rfl))
    |agg ss=>simp only[z6]at hv ⊢;exact .stat (.any _ (hv.one rfl))
    |arr n s=>simp only[z6]at hv ⊢;exact .stat (.any _ (hv.one rfl))
 | .any,y,ps,hf,hps | .int _ _,y,ps,hf,hps | .bool _,y,ps,hf,hps | .str _,y,ps,hf,hps | .nils,y,ps,hf,hps | .nilp,y,ps,hf,hps | .seq _ _ _,y,ps,hf,hps | .seqc _ _ _,y,ps,hf,hps
 | .ownx _ _ _ _,y,ps,hf,hps | .nseq _ _ _ _,y,ps,hf,hps | .cov _,y,ps,hf,hps | .rptr _ _,y,ps,hf,hps | .arr _ _,y,ps,hf,hps | .st _,y,ps,hf,hps | .clo _ _,y,ps,hf,hps | .when _ _,y,ps,hf,hps=>by
  simp only[frzK]at hf
  obtain⟨h1,h2⟩:=z5p h _ _ _ hf hps
  exact⟨fun v hv=> .stat (h1 v hv),fun sh j v hv=> .stat (h2 sh j v hv)⟩
theorem zcg {ks:List Nat} {st:St} (h:Rel C W0 F0 st a w F φ):∀ (l m:List AV) (ps:List Prop),zmq ks st.heap l=some (m,ps) ->(∀ p∈ps,p) ->
 (l.length=m.length/\∀ j,j<m.length ->∀ v,Rep w F φ v (l.getD j .any) ->Rep w (Lent st F φ) φ v (m.getD j .any))/\
 ∀ ss j v,Rep w F φ v (zh ss l j) ->Rep w (Lent st F φ) φ v (zh ss m j)
 | [],m,ps,hf,_=>by
  simp[zmq]at hf;obtain⟨rfl,rfl⟩:=hf
  refine⟨⟨rfl,fun j hj=>by simp at hj⟩,fun ss j v hv=>?_⟩
  cases ss<;>simp only[zh]at hv ⊢ <;>exact .stat (.any _ (hv.one rfl))
 |x::l,m,ps,hf,hps=>by
  simp only[zmq]at hf
  split at hf
  case h_2=>cases hf
  rename_i y ps1 m' ps2 h1 h2
  cases hf
  obtain⟨⟨l1,l2⟩,l3⟩:=zcg h l m' ps2 h2 fun p hp=>hps p (by simp[hp])
  obtain⟨k1,k2⟩:=zf7 h x y ps1 h1 fun p hp=>hps p (by simp[hp])
  refine⟨⟨by simp[l1],fun j hj v hv=>?_⟩,fun ss j v hv=>?_⟩
  . cases j with
    |zero=>exact k1 v (by simpa using hv)
    |succ j=>simpa using l2 j (by simpa using hj) v (by simpa using hv)
  . cases ss with
    |nil=>simp only[zh]at hv ⊢;exact .stat (.any _ (hv.one rfl))
    |cons s ss=>
     simp only[zh]at hv ⊢
     split
     . rename_i hj;rw[if_pos hj]at hv;exact k2 s j v hv
     . rename_i hj;rw[if_neg hj]at hv;exact l3 ss _ v hv
end
theorem z77 {prs:List (Nat×Nat)}:∀ (cs:List BoxC) (i j:Nat) (c:BoxC),z86 (z99 (z7z prs i cs))=true ->cs[j]? =some c ->get (z7z prs i cs) (nameF prs (i+j))=some c/\nameF prs (i+j)∈z99 (z7z prs i cs)
 | [],i,j,c,_,h=>by simp at h
 |d::cs,i,0,c,_,h=>by
  simp at h;subst h
  simp[z7z,get,z99]
 |d::cs,i,j+1,c,hn,h=>by
  simp only[z7z,z99,z86,Bool.and_eq_true,Bool.not_eq_true']at hn
  obtain⟨h1,h2⟩:=z77 cs (i+1) j c hn.2 (by simpa using h)
  rw[show i+1+j=i+(j+1)from by omega]at h1 h2
  have hne:Nat.beq (nameF prs i) (nameF prs (i+(j+1)))=false:=by
   cases e:Nat.beq (nameF prs i) (nameF prs (i+(j+1)))with
   |false=>rfl
   |true=>
    rw[Nat.eq_of_beq_eq_true e,z4m.2 h2]at hn;cases hn.1
  simp only[z7z,get,hne,z99]
  grind
theorem zch {prs:List (Nat×Nat)}:∀ (cs:List BoxC) (i j j':Nat),z86 (z99 (z7z prs i cs))=true ->j<cs.length ->j'<cs.length ->nameF prs (i+j)=nameF prs (i+j') ->j=j'
 | [],_,_,_,_,h,_,_=>by simp at h
 |d::cs,i,j,j',hn,hj,hj',e=>by
  simp only[z7z,z99,z86,Bool.and_eq_true,Bool.not_eq_true']at hn
  have mem:∀ k,k<cs.length ->nameF prs (i+(k+1))∈z99 (z7z prs (i+1) cs):=fun k hk=>by
   have :=(z77 cs (i+1) k _ hn.2 (List.getElem?_eq_getElem hk)).2
   grind
  have ne:∀ k,k<cs.length ->nameF prs (i+0)≠nameF prs (i+(k+1)):=fun k hk e=>by
   rw[Nat.add_zero]at e
   rw[e,z4m.2 (mem k hk)]at hn;cases hn.1
  cases j with
  |zero=>cases j' with
   |zero=>rfl
   |succ j'=>exact absurd e (ne j' (by simpa using hj'))
  |succ j=>cases j' with
   |zero=>exact absurd e.symm (ne j (by simpa using hj))
   |succ j'=>
    have :=zch cs (i+1) j j' hn.2 (by simpa using hj) (by simpa using hj') (by rw[show i+1+j=i+(j+1)from by omega,show i+1+j'=i+(j'+1)from by omega];exact e)
    omega
theorem zci:∀ (cs:List BoxC) {i:Nat} {c:BoxC},zcf cs=true ->cs[i]? =some c ->c.isRow=true
 | [],_,_,_,h=>by simp at h
 |d::cs,0,c,hr,h=>by simp only[zcf,Bool.and_eq_true]at hr;simp at h;subst h;exact hr.1
 |d::cs,i+1,c,hr,h=>by simp only[zcf,Bool.and_eq_true]at hr;exact zci cs hr.2 (by simpa using h)
theorem zmr {us:List Value} {l:List AV} (hl:us.length=l.length) (h:∀ j,j<l.length ->Rep w F φ (us.getD j undef) (l.getD j .any)):Rep w F φ (zgz us) (z8j l):=by
 match l,us,hl,h with
 | [],us,hl,h=>
  have :us=[]:=List.eq_nil_of_length_eq_zero (by simpa using hl)
  subst this
  exact .tup #[] [] rfl fun j hj=>by simp at hj
 | [y],us,hl,h=>
  match us,(hl:us.length=1)with
  | [v],_=>
   show Rep w F φ v y
   simpa using h 0 (by simp)
 |y::z::m,us,hl,h=>
  match us,(hl:us.length=m.length+1+1)with
  |v::u::us,hlen=>exact .tup _ _ (by simpa using hlen) fun j hj=>by simpa [Array.getD_eq_getD_getElem?,List.getD_eq_getElem?_getD]using h j hj
theorem zbx.of_vc {V:VCtx} {f:FuncId} {fn:Func} {args:List AV} {r:AV} {cs:List BoxC} (hf:V.C.P.funcs[f]? =some fn) (hn:fn.ntmps=V.C.ntmps) (hl:args.length<=V.C.ntmps) (hT:z1d V.C) (hCC:CCOK V.C V.CC) (h:z6v V fn args r cs):
 zbx V.C.P V.C.G f args r cs:=by
 intro w F vs hro hglob hsz hr
 unfold z6v at h
 split at h
 case h_2=>exact h.elim
 rename_i c hb
 refine calls_of_wp hf hb (wp_mono (z98 hT hCC c _ _ _ _ _ _ h (Rel.start hn hl hro hglob hsz hr)) ?_)
 rintro e a' w' ⟨st,F',φ',hR,hq⟩
 have fin:zin V fn r cs .ret st ->bodyPost V.C.P fn (fun en w'=>∃ v F' φ',en= .returned v/\Below w.heap.size w w'/\(∀ k,F k ->F' k)/\(∀ k,F' k ->F k∨w.heap.size<=k)/\(∀ k,F' k ->k<w'.heap.size)/\Rep w' F' φ' v r/\
  (∀ i c,cs[i]? =some c ->z24 w' F' φ' (fun k=>w.heap.size<=k) i c)/\∀ i i' g,i<cs.length ->i'<cs.length ->(φ' i).blk=some g ->(φ' i').blk=some g ->i=i') .ret a' w':=by
  intro hq
  unfold zin at hq
  dsimp only at hq
  split at hq
  case h_2=>exact hq.elim
  rename_i ps s1 s2 hret
  unfold zv3 at hret
  split at hret
  case h_2=>cases hret
  rename_i l hres
  split at hret
  case h_2=>cases hret
  rename_i m ps' hgood hfz
  cases hret
  simp only[Bool.and_eq_true]at hgood
  obtain⟨hnd,hgood,hrows⟩:=hgood
  obtain⟨hps,hle⟩:=z39 hq
  obtain⟨us,h1,h2,h3⟩:=z76 hR hT _ _ hres
  have hv:=zmr h2 h3
  generalize hks:z99 (z7z (zde (z8j l) r) 0 cs)=ks at *
  generalize hpr:zde (z8j l) r=prs at *
  have hR2:Rel V.C (.of w) F {st with heap:=z38 ks st.heap} a' w' F' φ':=
   ⟨hR.env,fun b c hc=>hR.heap b c (z1e hc).1,fun b b' c c' g h1 h2=>hR.inj b b' c c' g (z1e h1).1 (z1e h2).1,hR.ro,hR.base,hR.sub,hR.new,hR.dfr,hR.tsz,hR.glob,fun b p hp=>by cases hp⟩
  have hv2:=(zf7 (ks:=ks) hR2 _ _ _ hfz hps).1 _ hv
  have hlent:∀ k,Lent {st with heap:=z38 ks st.heap} F' φ' k ->F k∨w.heap.size<=k:=by
   rintro k (hk | ⟨b,c,hb,hk⟩)
   . exact(hR.new k hk).imp_right fun h=>h.resolve_right fun hf=>hf
   . exact .inr (((hR2.heap b c hb).lt hk).2.2.resolve_right fun hf=>hf)
  have hlt:∀ k,Lent {st with heap:=z38 ks st.heap} F' φ' k ->k<w'.heap.size:=by
   rintro k (hk | ⟨b,c,hb,hk⟩)
   . exact hR.ro k hk
   . exact((hR2.heap b c hb).lt hk).1
  have hR3:Rel {V.C with ntmps:=1} (.of w) F ⟨[(0,m)],z2l ks st.heap⟩ {tmps:=#[zgz us],defers:=[]} w' (Lent {st with heap:=z38 ks st.heap} F' φ') φ':=by
   refine⟨fun s x hs=>?_,fun b c hc=>?_,fun b b' c c' g h1 h2=>hR.inj b b' c c' g (z4d h1).1 (z4d h2).1,hlt,hR.base,fun k hk=> .inl (hR.sub k hk),fun k hk=>(hlent k hk).imp_right .inl,rfl,rfl,fun g x hg=>(hR.glob g x hg).keep (fun _ _=>rfl) fun _ hk=> .inl hk,fun b p hp=>by cases hp⟩
   . simp only[get]at hs
     split at hs
     . rename_i e
       cases hs
       have :=Nat.eq_of_beq_eq_true e
       subst this
       exact⟨_,rfl,hv2⟩
     . cases hs
   . obtain⟨k1,k2⟩:=z4d hc
     have hb:=hR.heap b c k1
     refine hb.keep (fun _ _=>rfl) (fun _ hk=> .inl hk) (fun g hg=>⟨rfl, ?_⟩) rfl fun _ _=>rfl
     rintro(h5 | ⟨b',c',h5,h6⟩)
     . exact(hb.lt hg).2.1 h5
     . obtain⟨h7,h8⟩:=z1e h5
       exact h8 (hR.inj b' b c' c g h7 k1 h6 hg ▸ k2)
  obtain⟨φ4,hR4⟩:=hR3.weaken hle
  obtain⟨v,hv4,hrep⟩:=hR4.env 0 (r.sub (nameF prs)) rfl
  simp at hv4
  subst hv4
  refine⟨hR.dfr,_,z8k h1,_,_,fun i=>φ4 (nameF prs i),rfl,hR.base.toBelow,fun k hk=> .inl (hR.sub k hk),hlent,hlt,zzq (m:=below cs.length) (n:=nameF prs) (φ2:=φ4) (fun _ _=>rfl) hgood hrep,fun i c hc=>?_,fun i i' g hi hi' e e'=>?_⟩
  . have hg:=(z77 cs 0 i c (by rw[hks];exact hnd) hc).1
    rw[Nat.zero_add]at hg
    have hB:=(hR4.heap _ c hg).base (base':=fun k=>w.heap.size<=k) fun k hk=>hk.resolve_right fun hf=>hf
    have hrow:=zci cs hrows hc
    cases c with
    |cell tc sh x=>cases hrow
    |row ty sh n f=>exact hB
  . have k1:=(z77 cs 0 i _ (by rw[hks];exact hnd) (List.getElem?_eq_getElem hi)).1
    have k2:=(z77 cs 0 i' _ (by rw[hks];exact hnd) (List.getElem?_eq_getElem hi')).1
    rw[Nat.zero_add]at k1 k2
    have :=hR4.inj _ _ _ _ g k1 k2 e e'
    have :=zch cs 0 i i' (prs:=prs) (by rw[hks];exact hnd) hi hi' (by rw[Nat.zero_add,Nat.zero_add];exact this)
    exact this
 cases e with
 |normal=>exact fin hq
 |ret=>exact fin hq
 |_=>exact hq.elim
end
theorem z2i.of {P : Program} {f : FuncId} {fn : Func} (hf : P.funcs[f]? = some fn) (hn : (fn.name == "runtime.NumGoroutine") = false) (hb : fn.body.isNone = false) : z2i P f := by
 intro args w
 simp only[callFunc,Sem.run_bind,run_program,Result.andThen_ok,hf,hn,hb,Bool.false_eq_true,if_false]
 rfl
theorem zh0:∀ s:Shape,s.same s=true:=by
 intro s
 induction s using Shape.rec (motive_2:=fun l=>Shape.sames l l=true)with
 |leaf=>rfl
 |agg l ih=>exact ih
 |arr n s ih=>simp[Shape.same,ih]
 |nil=>rfl
 |cons s l h1 h2=>simp[Shape.sames,h1,h2]
mutual
theorem le_refl (h h':List (Nat×BoxC)):∀ x:AV,(AV.leG h h' x x).P
 | .agg l | .tup l=>by simp only[AV.leG];exact zkh h h' l
 | .mc sh x=>by simp only[AV.leG,Gt.and_P,Gt.b_P];exact⟨zh0 sh,le_refl h h' x⟩
 | .int _ _ | .own _ _ | .ptr _ _ | .nils | .arr _ _=>by simp[AV.leG,Gt.and_P,Gt.b_P,Gt.P,zil]
 | .seq _ _ _=>by simp[AV.leG,Gt.and_P,Gt.b_P,Gt.P,zh0]
 | .seqc _ _ _ | .nseq _ _ _ _ | .bool _ | .str _ | .any | .nilp | .rptr _ _ | .optr _ _ _ | .clo _ _ | .st _ | .when _ _ | .cov _ | .ownx _ _ _ _=>by simp[AV.leG,Gt.P,Gt.b_P,AV.le,AV.isOne]
theorem zkh (h h':List (Nat×BoxC)):∀ l:List AV,(AV.lesG h h' l l).P
 | []=>trivial
 |x::l=>by simp only[AV.lesG,Gt.and_P];exact⟨le_refl h h' x,zkh h h' l⟩
end
def LS (x y:AV):Prop:=(AV.leG [] [] x y).P
theorem LS_t (x:AV):LS x x↔True:=⟨fun _=>trivial,fun _=>le_refl _ _ x⟩
theorem z34 {x y:AV} (h:y=x):LS x y:=by subst h;exact le_refl _ _ _
def Known (P:Program) (G:List (Nat×AV)) (f:FuncId) (args:List AV) (r:AV):Prop:=(z2i P f/\z83 P G f args r)∨RExt P f args r
def KnownF (P:Program) (G:List (Nat×AV)) (f:FuncId) (args:List AV) (r:AV) (cs:List BoxC):Prop:=z2i P f/\zbx P G f args r cs
theorem z9a (C:Cfg) (hF:∀ f ga r cs,C.CCF f ga r cs ->KnownF C.P C.G f ga r cs):CCOK C (Known C.P C.G):=⟨fun _ _ _ h=>h,hF⟩
theorem Known.of {V : VCtx} {f : FuncId} {fn : Func} {args : List AV} {r : AV} (hf : V.C.P.funcs[f]? = some fn) (hok : ((fn.name == "runtime.NumGoroutine") || fn.body.isNone || !Nat.beq fn.ntmps V.C.ntmps || !Nat.ble args.length V.C.ntmps) = false) (hT : z1d V.C) (hCC : V.CC = Known V.C.P V.C.G) (h : fnVc V fn args r)
 (hF:∀ f ga r cs,V.C.CCF f ga r cs ->KnownF V.C.P V.C.G f ga r cs:=by first |exact fun _ _ _ _ h=>False.elim h |exact fun _ _ _ _ h=>h):
 Known V.C.P V.C.G f args r:=by
 simp only[Bool.or_eq_false_iff,Bool.not_eq_false']at hok
 obtain⟨⟨⟨h1,h2⟩,h3⟩,h4⟩:=hok
 exact .inl ⟨z2i.of hf h1 h2,z83.of_vc hf (Nat.eq_of_beq_eq_true h3) (Nat.le_of_ble_eq_true h4) hT (by rw[hCC];exact z9a V.C hF) h⟩
theorem KnownF.of {V : VCtx} {f : FuncId} {fn : Func} {args : List AV} {r : AV} {cs : List BoxC} (hf : V.C.P.funcs[f]? = some fn) (hok : ((fn.name == "runtime.NumGoroutine") || fn.body.isNone || !Nat.beq fn.ntmps V.C.ntmps || !Nat.ble args.length V.C.ntmps) = false) (hT : z1d V.C) (hCC : V.CC = Known V.C.P V.C.G) (h : z6v V fn args r cs)
 (hF:∀ f ga r cs,V.C.CCF f ga r cs ->KnownF V.C.P V.C.G f ga r cs:=by first |exact fun _ _ _ _ h=>False.elim h |exact fun _ _ _ _ h=>h):
 KnownF V.C.P V.C.G f args r cs:=by
 simp only[Bool.or_eq_false_iff,Bool.not_eq_false']at hok
 obtain⟨⟨⟨h1,h2⟩,h3⟩,h4⟩:=hok
 exact⟨z2i.of hf h1 h2,zbx.of_vc hf (Nat.eq_of_beq_eq_true h3) (Nat.le_of_ble_eq_true h4) hT (by rw[hCC];exact z9a V.C hF) h⟩
theorem Known.weaken {P:Program} {G:List (Nat×AV)} {f:FuncId} {args args':List AV} {r:AV} (h:Known P G f args r) (hs:AV.areStat args'=true) (hl:AV.les [] [] args' args):Known P G f args' r:=by
 obtain⟨l1,l2⟩:=zim hl
 rcases h with⟨h1,h2⟩ |h
 . exact .inl ⟨h1,fun w F vs a1 a2 a3 a4=>h2 w F vs a1 a2 (by omega) fun j hj=>zf6 (z2b hs j) (l2 j (by omega)) (a4 j (by omega))⟩
 . exact .inr fun w F vs a3 a4=>h w F vs (by omega) fun j hj=>zf6 (z2b hs j) (l2 j (by omega)) (a4 j (by omega))
theorem Known.calls {P : Program} {G : List (Nat × AV)} {f : FuncId} {fn : Func} {args : List AV} {r : AV} (h : Known P G f args r) (hf : P.funcs[f]? = some fn) (hok : ((fn.name == "runtime.NumGoroutine") || fn.body.isNone) = false) : z83 P G f args r := by
 simp only[Bool.or_eq_false_iff]at hok
 rcases h with⟨_,h⟩ |h
 . exact h
 . intro w F vs _ _ a3 a4
   obtain⟨v,h1,_⟩:=h w F vs a3 a4
   rw[z2i.of hf hok.1 hok.2]at h1
   cases h1
end Go.AV
namespace Go.Proofs.S25
open Go Go.AV
open Go.IntKind renaming i64 -> j6
open Go.AV.Shape (leaf)
noncomputable section
structure Inst where
 op:Int
 a:Int
 b:Int
 c:Int
 obj:Int
 n:Int
 fn:Int
 ord:Int
 deriving Inhabited,DecidableEq
structure PVar where
 name:List UInt8
 init:Int
 deriving Inhabited,DecidableEq
structure PFun where
 name:List UInt8
 code:List Inst
 deriving Inhabited,DecidableEq
structure PStart where
 fn:Int
 arg:Int
 deriving Inhabited,DecidableEq
structure PProg where
 vars:List PVar
 muts:List (List UInt8)
 conds:List (List UInt8)
 funs:List PFun
 thr:List PStart
 deriving Inhabited,DecidableEq
structure Thr where
 id:Int
 fn:Int
 pc:Int
 regs:List Int
 steps:Int
 kids:Int
 phase:Int
 status:Int
 fault:Int
 held:List Int
 deriving Inhabited,DecidableEq
structure Mem where
 vars:List Int
 owners:List Int
 queues:List (List Int)
 sig:List Int
 deriving Inhabited,DecidableEq
structure BEnt where
 var:Int
 val:Int
 deriving Inhabited,DecidableEq
structure Buf where
 thread:Int
 first:Int
 entries:List BEnt
 deriving Inhabited,DecidableEq
structure SState where
 thr:List Thr
 mem:Mem
 bufs:List Buf
 deriving Inhabited,DecidableEq
structure Ev where
 agent:Int
 idx:Int
 kind:Int
 obj:Int
 mutex:Int
 entry:Int
 ord:Int
 read:Int
 wrote:Int
 deriving Inhabited,DecidableEq
def c0i:Inst:=⟨0,0,0,0,0,0,0,0⟩
def c0v:PVar:=⟨[],0⟩
def c0f:PFun:=⟨[],[]⟩
def c0s:PStart:=⟨0,0⟩
def c0p:PProg:=⟨[],[],[],[],[]⟩
def c0t:Thr:=⟨0,0,0,List.replicate 8 0,0,0,0,0,0,[]⟩
def c0m:Mem:=⟨[],[],[],[]⟩
def c0e:BEnt:=⟨0,0⟩
def c0b:Buf:=⟨0,0,[]⟩
def c0st:SState:=⟨[],c0m,[]⟩
def c0ev:Ev:=⟨0,0,0,0,0,0,0,0,0⟩
def zy:Shape:= .agg [.leaf, .leaf, .leaf, .leaf, .leaf, .leaf, .leaf, .leaf]
def z16:Shape:= .agg [.leaf, .leaf]
def z7:Shape:= .agg [.leaf, .leaf, .leaf, .leaf, .leaf]
def zk:Shape:= .agg [.leaf, .leaf, .leaf, .arr 8 .leaf, .leaf, .leaf, .leaf, .leaf, .leaf, .leaf]
def zm:Shape:= .agg [.leaf, .leaf, .leaf, .leaf]
def z17:Shape:= .agg [.leaf, .leaf, .leaf]
def stSh:Shape:= .agg [.leaf,zm, .leaf]
def evSh:Shape:= .agg [.leaf, .leaf, .leaf, .leaf, .leaf, .leaf, .leaf, .leaf, .leaf]
abbrev i64 (n:Int):AV:= .int .i64 n
def rowI (l:List Int):AV:= .seq .leaf l.length fun i=> .int .i64 (l.getD i 0)
def rowS (l:List (List UInt8)):AV:= .seq .leaf l.length fun i=> .str (l.getD i [])
def encI (i:Inst):AV:= .agg [.int .i64 i.op, .int .i64 i.a, .int .i64 i.b, .int .i64 i.c, .int .i64 i.obj, .int .i64 i.n, .int .i64 i.fn, .int .i64 i.ord]
def z4l (l:List Inst):AV:= .seq zy l.length fun i=>encI (l.getD i c0i)
def encV (v:PVar):AV:= .agg [.str v.name, .int .i64 v.init]
def rowV (l:List PVar):AV:= .seq z16 l.length fun i=>encV (l.getD i c0v)
def encF (f:PFun):AV:= .agg [.str f.name,z4l f.code]
def rowF (l:List PFun):AV:= .seq z16 l.length fun i=>encF (l.getD i c0f)
def encS (s:PStart):AV:= .agg [.int .i64 s.fn, .int .i64 s.arg]
def z8l (l:List PStart):AV:= .seq z16 l.length fun i=>encS (l.getD i c0s)
def encP (p:PProg):AV:= .agg [rowV p.vars,rowS p.muts,rowS p.conds,rowF p.funs,z8l p.thr]
def arr8 (l:List Int):AV:= .arr 8 fun i=> .int .i64 (l.getD i 0)
def encT (t:Thr):AV:= .agg [.int .i64 t.id, .int .i64 t.fn, .int .i64 t.pc,arr8 t.regs, .int .i64 t.steps, .int .i64 t.kids, .int .i64 t.phase, .int .i64 t.status, .int .i64 t.fault,rowI t.held]
def rowT (l:List Thr):AV:= .seq zk l.length fun i=>encT (l.getD i c0t)
def rowQ (l:List (List Int)):AV:= .seq .leaf l.length fun i=>rowI (l.getD i [])
def encM (m:Mem):AV:= .agg [rowI m.vars,rowI m.owners,rowQ m.queues,rowI m.sig]
def encE (e:BEnt):AV:= .agg [.int .i64 e.var, .int .i64 e.val]
def rowE (l:List BEnt):AV:= .seq z16 l.length fun i=>encE (l.getD i c0e)
def encB (b:Buf):AV:= .agg [.int .i64 b.thread, .int .i64 b.first,rowE b.entries]
def rowB (l:List Buf):AV:= .seq z17 l.length fun i=>encB (l.getD i c0b)
def ze (s:SState):AV:= .agg [rowT s.thr,encM s.mem,rowB s.bufs]
def z11 (e:Ev):AV:= .agg [.int .i64 e.agent, .int .i64 e.idx, .int .i64 e.kind, .int .i64 e.obj, .int .i64 e.mutex, .int .i64 e.entry, .int .i64 e.ord, .int .i64 e.read, .int .i64 e.wrote]
def vI (i:Inst):AV:= .mc zy (encI i)
def vP (p:PProg):AV:= .mc z7 (encP p)
def vT (t:Thr):AV:= .mc zk (encT t)
def vM (m:Mem):AV:= .mc zm (encM m)
def vB (b:Buf):AV:= .mc z17 (encB b)
def vSt (s:SState):AV:= .mc stSh (ze s)
def vEv (e:Ev):AV:= .mc evSh (z11 e)
def dI:AV ->Int
 | .int _ a=>a
 |_=>0
def dStr:AV ->List UInt8
 | .str a=>a
 |_=>[]
def dR {α:Type} (d:AV ->α):AV ->List α
 | .seq _ n f | .seqc _ n f=>(List.range n).map fun i=>d (f i)
 |_=>[]
def dA {α:Type} (d:AV ->α):AV ->List α
 | .arr n f=>(List.range n).map fun i=>d (f i)
 |_=>[]
def dIn:AV ->Inst
 | .agg [.int _ a, .int _ b, .int _ c, .int _ d, .int _ e, .int _ f, .int _ g, .int _ h]=>⟨a,b,c,d,e,f,g,h⟩
 |_=>c0i
def dV:AV ->PVar
 | .agg [.str s, .int _ n]=>⟨s,n⟩
 |_=>c0v
def dF:AV ->PFun
 | .agg [.str s,x]=>⟨s,dR dIn x⟩
 |_=>c0f
def dS:AV ->PStart
 | .agg [.int _ a, .int _ b]=>⟨a,b⟩
 |_=>c0s
def dP:AV ->PProg
 | .agg [a,b,c,d,e]=>⟨dR dV a,dR dStr b,dR dStr c,dR dF d,dR dS e⟩
 |_=>c0p
def dT:AV ->Thr
 | .agg [.int _ a, .int _ b, .int _ c,r, .int _ d, .int _ e, .int _ f, .int _ g, .int _ h,x]=>⟨a,b,c,dA dI r,d,e,f,g,h,dR dI x⟩
 |_=>c0t
def dM:AV ->Mem
 | .agg [a,b,c,d]=>⟨dR dI a,dR dI b,dR (dR dI) c,dR dI d⟩
 |_=>c0m
def dE:AV ->BEnt
 | .agg [.int _ a, .int _ b]=>⟨a,b⟩
 |_=>c0e
def dB:AV ->Buf
 | .agg [.int _ a, .int _ b,x]=>⟨a,b,dR dE x⟩
 |_=>c0b
def dSt:AV ->SState
 | .agg [a,m,b]=>⟨dR dT a,dM m,dR dB b⟩
 |_=>c0st
def dEv:AV ->Ev
 | .agg [.int _ a, .int _ b, .int _ c, .int _ d, .int _ e, .int _ f, .int _ g, .int _ h, .int _ i]=>⟨a,b,c,d,e,f,g,h,i⟩
 |_=>c0ev
theorem zki {α:Type} (l:List α) (d:α):(List.range l.length).map (fun i=>l.getD i d)=l:=by
 apply List.ext_getElem (by simp)
 intro i h1 h2
 simp at h1
 simp[h1]
theorem z9b {α:Type} {d:AV ->α} {enc:α ->AV} {z:α} {sh:Shape} (h:∀ a,d (enc a)=a) (l:List α):dR d (.seq sh l.length fun i=>enc (l.getD i z))=l:=by
 simp only[dR,h];exact zki l z
theorem ziq (i:Inst):dIn (encI i)=i:=rfl
theorem znw (i:PVar):dV (encV i)=i:=rfl
theorem znx (i:PStart):dS (encS i)=i:=rfl
theorem zny (i:BEnt):dE (encE i)=i:=rfl
theorem znz (i:Ev):dEv (z11 i)=i:=rfl
theorem dR_I (l:List Int):dR dI (rowI l)=l:=z9b (enc:=fun n=> .int .i64 n) (fun _=>rfl) l
theorem dR_S (l:List (List UInt8)):dR dStr (rowS l)=l:=z9b (enc:=fun n=> .str n) (fun _=>rfl) l
theorem zzx (l:List Inst):dR dIn (z4l l)=l:=z9b ziq l
theorem dR_V (l:List PVar):dR dV (rowV l)=l:=z9b znw l
theorem zkj (f:PFun):dF (encF f)=f:=by
 show(⟨f.name,dR dIn (z4l f.code)⟩:PFun)=f
 rw[zzx]
theorem dR_F (l:List PFun):dR dF (rowF l)=l:=z9b zkj l
theorem zzy (l:List PStart):dR dS (z8l l)=l:=z9b znx l
theorem zv4 (p:PProg):dP (encP p)=p:=by
 show(⟨dR dV (rowV p.vars),dR dStr (rowS p.muts),dR dStr (rowS p.conds),dR dF (rowF p.funs),dR dS (z8l p.thr)⟩:PProg)=p
 rw[dR_V,dR_S,dR_S,dR_F,zzy]
theorem dA_8 {l:List Int} (h:l.length=8):dA dI (arr8 l)=l:=by
 show(List.range 8).map (fun i=>l.getD i 0)=l
 rw[<- h];exact zki l 0
theorem dR_E (l:List BEnt):dR dE (rowE l)=l:=z9b zny l
theorem zkk (b:Buf):dB (encB b)=b:=by
 show(⟨b.thread,b.first,dR dE (rowE b.entries)⟩:Buf)=b
 rw[dR_E]
theorem dR_B (l:List Buf):dR dB (rowB l)=l:=z9b zkk l
theorem dR_Q (l:List (List Int)):dR (dR dI) (rowQ l)=l:=z9b (enc:=rowI) dR_I l
theorem zo0 (m:Mem):dM (encM m)=m:=by
 show(⟨dR dI (rowI m.vars),dR dI (rowI m.owners),dR (dR dI) (rowQ m.queues),dR dI (rowI m.sig)⟩:Mem)=m
 rw[dR_I,dR_I,dR_Q,dR_I]
theorem z2c (t:Thr) (h:t.regs.length=8):dT (encT t)=t:=by
 show(⟨t.id,t.fn,t.pc,dA dI (arr8 t.regs),t.steps,t.kids,t.phase,t.status,t.fault,dR dI (rowI t.held)⟩:Thr)=t
 rw[dA_8 h,dR_I]
def zss:List (List UInt8):=[[99,111,110,115,116],[99,111,112,121],[99,97,108,99],[106,117,109,112],[98,114,97,110,99,104],[97,115,115,101,114,116],[115,116,111,112],[108,111,97,100],[115,116,111,114,101],[115,119,97,112],[102,101,116,99,104,97,100,100],[99,97,115],[102,101,110,99,101],[97,119,97,105,116],[108,111,99,107],[117,110,108,111,99,107],[116,114,121,108,111,99,107],[119,97,105,116],[115,105,103,110,97,108],[98,114,111,97,100,99,97,115,116],[115,112,97,119,110],[106,111,105,110]]
def zf8:List (List Bool):=[[true,false,false,false,true,false,false],[true,true,false,false,false,false,false],[true,true,true,false,false,true,false],[false,false,false,false,true,false,false],[false,true,false,false,true,false,false],[false,true,false,false,false,false,false],[false,false,false,false,false,false,false],[true,false,false,true,false,false,true],[false,true,false,true,false,false,true],[true,true,false,true,false,false,true],[true,true,false,true,false,false,true],[true,true,true,true,false,false,true],[false,false,false,false,false,false,false],[true,true,false,true,false,true,true],[false,false,false,true,false,false,false],[false,false,false,true,false,false,false],[true,false,false,true,false,false,false],[false,false,false,true,true,false,false],[false,false,false,true,false,false,false],[false,false,false,true,false,false,false],[true,true,false,true,false,false,false],[false,true,false,false,false,false,false]]
def rowSh:Shape:= .agg [.leaf, .arr 7 .leaf]
def z1r (op:Int) (k:Nat):Bool:=(zf8.getD (op - 1).toNat []).getD k false
def nameL:List (List UInt8):=[[97,100,100],[115,117,98],[109,117,108],[97,110,100],[111,114],[120,111,114],[101,113],[110,101],[108,116],[108,101]]
def nameF (f:Int):List UInt8:=if f<1∨10<f then []else nameL.getD (f - 1).toNat []
structure ERow where
 most:Int
 order:Bool
 low:Int
 high:Int
 wrote:Bool
 least:Int
 access:Int
 write:Bool
def GG:List (Nat×AV):=[
 (0, .rptr (.arr 22 rowSh) (.arr 22 fun i=> .agg [.str (zss.getD i []), .arr 7 fun k=> .bool ((zf8.getD i []).getD k false)])),
 (1, .rptr (.arr 10 .leaf) (.arr 10 fun i=> .str (nameL.getD i [])))]
def TT:List (Nat×TyE):=[
 (3,⟨.leaf, .int .i64 0,8, .int .i64,false⟩),
 (4,⟨.leaf, .bool false,1, .bool,false⟩),
 (5,⟨.leaf, .int .u8 0,1, .int .u8,false⟩),
 (9,⟨.leaf, .str [],16, .string,false⟩),
 (21,⟨.leaf, .int .i32 0,4, .int .i32,false⟩),
 (240,⟨.leaf, .int .u32 0,4, .int .u32,false⟩),
 (44,⟨.leaf, .int .i64 0,8, .int .i64,false⟩),
 (83,⟨.leaf, .int .i64 0,8, .int .i64,false⟩),
 (84,⟨.leaf, .int .i64 0,8, .int .i64,false⟩),
 (52,⟨.leaf, .int .i64 0,8, .int .i64,false⟩),
 (53,⟨.leaf, .int .i64 0,8, .int .i64,false⟩),
 (102,⟨.leaf, .int .i64 0,8, .int .i64,false⟩),
 (103,⟨.leaf, .int .i64 0,8, .int .i64,false⟩),
 (22,⟨.leaf, .nils,24, .slice 107,false⟩),
 (23,⟨.leaf, .nils,24, .slice 9,false⟩),
 (198,⟨.leaf, .nils,24, .slice 23,false⟩),
 (24,⟨.leaf, .nils,24, .slice 70,false⟩),
 (25,⟨.leaf, .nils,24, .slice 100,false⟩),
 (68,⟨.leaf, .nils,24, .slice 105,false⟩),
 (35,⟨.leaf, .nils,24, .slice 86,false⟩),
 (39,⟨.leaf, .nils,24, .slice 90,false⟩),
 (88,⟨.leaf, .nils,24, .slice 117,false⟩),
 (31,⟨.leaf, .nils,24, .slice 3,false⟩),
 (36,⟨.leaf, .nils,24, .slice 31,false⟩),
 (107,⟨z16, .agg [.str [], .int .i64 0],24, .struct [9,3],true⟩),
 (105,⟨zy, .agg [.int .i64 0, .int .i64 0, .int .i64 0, .int .i64 0, .int .i64 0, .int .i64 0, .int .i64 0, .int .i64 0],64, .struct [102,3,3,3,3,3,103,53],true⟩),
 (70,⟨z16, .agg [.str [], .nils],40, .struct [9,68],false⟩),
 (100,⟨z16, .agg [.int .i64 0, .int .i64 0],16, .struct [3,3],true⟩),
 (27,⟨z7, .agg [.nils, .nils, .nils, .nils, .nils],120, .struct [22,23,23,24,25],false⟩),
 (82,⟨.arr 8 .leaf, .arr 8 (fun _=> .int .i64 0),64, .arr 8 3,true⟩),
 (255,⟨.arr 7 .leaf, .arr 7 (fun _=> .int .i64 0),56, .arr 7 3,false⟩),
 (227,⟨.arr 4 .leaf, .arr 4 (fun _=> .int .i64 0),32, .arr 4 3,false⟩),
 (259,⟨.arr 10 .leaf, .arr 10 (fun _=> .str []),160, .arr 10 9,false⟩),
 (243,⟨rowSh, .agg [.str [], .arr 7 (fun _=> .bool false)],24, .struct [9,241],false⟩),
 (244,⟨.arr 22 rowSh, .arr 22 (fun _=> .agg [.str [], .arr 7 (fun _=> .bool false)]),528, .arr 22 243,false⟩),
 (257,⟨.arr 3 .leaf, .arr 3 (fun _=> .int .i64 0),24, .arr 3 3,false⟩),
 (241,⟨.arr 7 .leaf, .arr 7 (fun _=> .bool false),7, .arr 7 4,false⟩),
 (86,⟨zk, .agg [.int .i64 0, .int .i64 0, .int .i64 0, .arr 8 (fun _=> .int .i64 0), .int .i64 0, .int .i64 0, .int .i64 0, .int .i64 0, .int .i64 0, .nils],152,
  .struct [3,3,3,82,3,3,83,84,44,31],false⟩),
 (38,⟨zm, .agg [.nils, .nils, .nils, .nils],96, .struct [31,31,36,31],false⟩),
 (90,⟨z17, .agg [.int .i64 0, .int .i64 0, .nils],40, .struct [3,3,88],false⟩),
 (117,⟨z16, .agg [.int .i64 0, .int .i64 0],16, .struct [3,3],true⟩),
 (41,⟨stSh, .agg [.nils, .agg [.nils, .nils, .nils, .nils], .nils],144, .struct [35,38,39],false⟩),
 (55,⟨evSh, .agg [.int .i64 0, .int .i64 0, .int .i64 0, .int .i64 0, .int .i64 0, .int .i64 0, .int .i64 0, .int .i64 0, .int .i64 0],72,
  .struct [3,3,52,3,3,3,53,3,3],true⟩),
 (28,⟨.leaf, .int .i64 0,8, .int .i64,false⟩),
 (30,⟨z16, .agg [.int .i64 0, .int .i64 0],16, .struct [28,3],true⟩),
 (73,⟨.agg [z7,z16], .agg [.agg [.nils, .nils, .nils, .nils, .nils], .agg [.int .i64 0, .int .i64 0]],136, .struct [27,30],false⟩),
 (34,⟨.leaf, .nils,24, .slice 55,false⟩),
 (43,⟨.agg [.leaf,stSh], .agg [.nils, .agg [.nils, .agg [.nils, .nils, .nils, .nils], .nils]],168, .struct [34,41],false⟩),
 (115,⟨.agg [stSh,evSh, .leaf], .agg [.agg [.nils, .agg [.nils, .nils, .nils, .nils], .nils], .agg [.int .i64 0, .int .i64 0, .int .i64 0, .int .i64 0, .int .i64 0, .int .i64 0, .int .i64 0, .int .i64 0, .int .i64 0], .int .i64 0],224, .struct [41,55,44],false⟩),
 (50,⟨.agg [z7,z16, .leaf], .agg [.agg [.nils, .nils, .nils, .nils, .nils], .agg [.int .i64 0, .int .i64 0], .nils],160, .struct [27,30,31],false⟩),
 (150,⟨z16, .agg [.int .i64 0, .int .i64 0],16, .struct [3,3],true⟩),
 (155,⟨.agg [stSh, .leaf], .agg [.agg [.nils, .agg [.nils, .nils, .nils, .nils], .nils], .int .i64 0],152, .struct [41,3],false⟩)]
theorem za {n:Int} (h1: -9223372036854775808<=n) (h2:n<=9223372036854775807):InR .i64 n:=by
 show(if(true&&decide (n % 18446744073709551616>=9223372036854775808))=true then n % 18446744073709551616 - 18446744073709551616 else n % 18446744073709551616)=n
 rw[Bool.true_and]
 by_cases h:n % 18446744073709551616>=9223372036854775808
 . rw[decide_eq_true h,if_pos rfl];omega
 . rw[decide_eq_false h,if_neg (by simp)];omega
theorem z2d {α:Type} (l:List α) (p:α ->Bool) (d:α):l.all p=true↔∀ i,i<l.length ->p (l.getD i d)=true:=by
 rw[List.all_eq_true]
 constructor
 . intro h i hi
   have :l.getD i d=l[i]:=by simp[hi]
   rw[this];exact h _ (List.getElem_mem hi)
 . intro h x hx
   obtain⟨i,hi,rfl⟩:=List.mem_iff_getElem.1 hx
   have :=h i hi
   simpa [hi]using this
theorem zb7 {α:Type} (l:List α) (p:α ->Bool) (d:α):l.any p=true↔∃ i,i<l.length/\p (l.getD i d)=true:=by
 rw[List.any_eq_true]
 constructor
 . rintro⟨x,hx,hp⟩
   obtain⟨i,hi,rfl⟩:=List.mem_iff_getElem.1 hx
   exact⟨i,hi,by simpa [hi]using hp⟩
 . rintro⟨i,hi,hp⟩
   exact⟨l[i],List.getElem_mem hi,by simpa [hi]using hp⟩
theorem z3d {α:Type} {a b:List α} {d:α} (hl:a.length=b.length) (h:∀ j,j<a.length ->a.getD j d=b.getD j d):a=b:=by
 apply List.ext_getElem hl
 intro i h1 h2
 have :=h i h1
 simpa [h1,h2]using this
theorem f_eq {p:Bool} (h:p=true ->False):false=p:=by cases p;rfl;exact(h rfl).elim
theorem t_eq {p:Bool} (h:p=false ->False):true=p:=by cases p;exact(h rfl).elim;rfl
theorem zdz (sh:Shape) (n:Nat) (f:Nat ->AV):strip1 (.seq sh n f)= .seq sh n f:=rfl
theorem ze0 (k:IntKind) (n:Int):strip1 (.int k n)= .int k n:=rfl
theorem ze1 (l:List UInt8):strip1 (.str l)= .str l:=rfl
theorem tri1 {a b:Prop}:(a ->b ->a/\b)↔True:=⟨fun _=>trivial,fun _ x y=>⟨x,y⟩⟩
theorem sI:Shape.agg [Shape.leaf,Shape.leaf,Shape.leaf,Shape.leaf,Shape.leaf,Shape.leaf,Shape.leaf,Shape.leaf]=zy:=rfl
theorem s2:Shape.agg [Shape.leaf,Shape.leaf]=z16:=rfl
theorem s3:Shape.agg [Shape.leaf,Shape.leaf,Shape.leaf]=z17:=rfl
theorem s4:Shape.agg [Shape.leaf,Shape.leaf,Shape.leaf,Shape.leaf]=zm:=rfl
theorem s5:Shape.agg [Shape.leaf,Shape.leaf,Shape.leaf,Shape.leaf,Shape.leaf]=z7:=rfl
theorem s9:Shape.agg [Shape.leaf,Shape.leaf,Shape.leaf,Shape.leaf,Shape.leaf,Shape.leaf,Shape.leaf,Shape.leaf,Shape.leaf]=evSh:=rfl
theorem sT:Shape.agg [Shape.leaf,Shape.leaf,Shape.leaf,Shape.arr 8 Shape.leaf,Shape.leaf,Shape.leaf,Shape.leaf,Shape.leaf,Shape.leaf,Shape.leaf]=zk:=rfl
theorem sS:Shape.agg [Shape.leaf,zm,Shape.leaf]=stSh:=rfl
theorem rI (l:List Int):(AV.seq Shape.leaf l.length fun i=>AV.int IntKind.i64 (l.getD i 0))=rowI l:=rfl
theorem rS (l:List (List UInt8)):(AV.seq Shape.leaf l.length fun i=>AV.str (l.getD i []))=rowS l:=rfl
theorem rIn (l:List Inst):(AV.seq zy l.length fun i=>encI (l.getD i c0i))=z4l l:=rfl
theorem rV (l:List PVar):(AV.seq z16 l.length fun i=>encV (l.getD i c0v))=rowV l:=rfl
theorem rF (l:List PFun):(AV.seq z16 l.length fun i=>encF (l.getD i c0f))=rowF l:=rfl
theorem rSt (l:List PStart):(AV.seq z16 l.length fun i=>encS (l.getD i c0s))=z8l l:=rfl
theorem rT (l:List Thr):(AV.seq zk l.length fun i=>encT (l.getD i c0t))=rowT l:=rfl
theorem rQ (l:List (List Int)):(AV.seq Shape.leaf l.length fun i=>rowI (l.getD i []))=rowQ l:=rfl
theorem rE (l:List BEnt):(AV.seq z16 l.length fun i=>encE (l.getD i c0e))=rowE l:=rfl
theorem rB (l:List Buf):(AV.seq z17 l.length fun i=>encB (l.getD i c0b))=rowB l:=rfl
theorem fI (i:Inst):AV.agg [AV.int IntKind.i64 i.op,AV.int IntKind.i64 i.a,AV.int IntKind.i64 i.b,AV.int IntKind.i64 i.c,AV.int IntKind.i64 i.obj,AV.int IntKind.i64 i.n,AV.int IntKind.i64 i.fn,AV.int IntKind.i64 i.ord]=encI i:=rfl
theorem fV (i:PVar):AV.agg [AV.str i.name,AV.int IntKind.i64 i.init]=encV i:=rfl
theorem fF (i:PFun):AV.agg [AV.str i.name,z4l i.code]=encF i:=rfl
theorem fS (i:PStart):AV.agg [AV.int IntKind.i64 i.fn,AV.int IntKind.i64 i.arg]=encS i:=rfl
theorem fP (p:PProg):AV.agg [rowV p.vars,rowS p.muts,rowS p.conds,rowF p.funs,z8l p.thr]=encP p:=rfl
theorem fA (l:List Int):(AV.arr 8 fun i=>AV.int IntKind.i64 (l.getD i 0))=arr8 l:=rfl
theorem fT (t:Thr):AV.agg [AV.int IntKind.i64 t.id,AV.int IntKind.i64 t.fn,AV.int IntKind.i64 t.pc,arr8 t.regs,AV.int IntKind.i64 t.steps,AV.int IntKind.i64 t.kids,AV.int IntKind.i64 t.phase,AV.int IntKind.i64 t.status,AV.int IntKind.i64 t.fault,rowI t.held]=encT t:=rfl
theorem fM (m:Mem):AV.agg [rowI m.vars,rowI m.owners,rowQ m.queues,rowI m.sig]=encM m:=rfl
theorem fE (e:BEnt):AV.agg [AV.int IntKind.i64 e.var,AV.int IntKind.i64 e.val]=encE e:=rfl
theorem fB (b:Buf):AV.agg [AV.int IntKind.i64 b.thread,AV.int IntKind.i64 b.first,rowE b.entries]=encB b:=rfl
theorem fSt (s:SState):AV.agg [rowT s.thr,encM s.mem,rowB s.bufs]=ze s:=rfl
theorem fEv (e:Ev):AV.agg [AV.int IntKind.i64 e.agent,AV.int IntKind.i64 e.idx,AV.int IntKind.i64 e.kind,AV.int IntKind.i64 e.obj,AV.int IntKind.i64 e.mutex,AV.int IntKind.i64 e.entry,AV.int IntKind.i64 e.ord,AV.int IntKind.i64 e.read,AV.int IntKind.i64 e.wrote]=z11 e:=rfl
noncomputable def cfgT (n:Nat):Cfg:={P:=Tryz.prog,T:=TT,G:=GG,wraps:=false,ntmps:=n}
theorem zq (n:Nat):z1d (cfgT n):=z3g (by kernel_rfl)
def RR.{u} {α:Sort u} (a:α):Prop:=a=a
def RW (sh:Shape) (n:Nat) (f:Nat ->AV):Prop:=RR sh/\RR n/\∀ i:Nat,i<n ->RR (f i)
def RI (n:Int):Prop:=RR IntKind.i64/\RR n
theorem RR_t.{u} {α:Sort u} (a:α):RR a↔True:=⟨fun _=>trivial,fun _=>rfl⟩
theorem RW_t (sh:Shape) (n:Nat) (f:Nat ->AV):RW sh n f↔True:=⟨fun _=>trivial,fun _=>⟨rfl,rfl,fun _ _=>rfl⟩⟩
theorem RI_t (n:Int):RI n↔True:=⟨fun _=>trivial,fun _=>⟨rfl,rfl⟩⟩
theorem SB:type_of% @and_true/\type_of% @true_and/\type_of% @implies_true.{0}/\type_of% @implies_true.{1}/\type_of% @Int.toNat_natCast/\type_of% @Bool.or_eq_true/\type_of% @Bool.and_eq_true/\type_of% @Bool.or_eq_false_iff/\type_of% @Bool.and_eq_false_iff/\type_of% @Bool.not_eq_true'/\type_of% @decide_eq_true_eq/\type_of% @decide_eq_false_iff_not/\type_of% @Bool.not_eq_false'/\type_of% @imp_self/\type_of% @beq_iff_eq.{0}/\type_of% @beq_eq_false_iff_ne.{0}/\type_of% @bne_iff_ne.{0}/\type_of% @bne_eq_false_iff_eq.{0}/\type_of% @ne_eq.{1}/\type_of% @Decidable.not_not/\type_of% @zdz/\type_of% @ze0/\type_of% @ze1/\type_of% @Int.ofNat_lt/\type_of% @Int.ofNat_le/\type_of% @Int.natCast_nonneg/\type_of% @Nat.le_refl/\type_of% @Nat.one_mul/\type_of% @false_implies/\type_of% @tri1/\type_of% @Int.toNat_zero/\type_of% @Int.toNat_one/\type_of% @sI/\type_of% @s2/\type_of% @s3/\type_of% @s4/\type_of% @s5/\type_of% @s9/\type_of% @sT/\type_of% @sS/\type_of% @rI/\type_of% @rS/\type_of% @rIn/\type_of% @rV/\type_of% @rF/\type_of% @rSt/\type_of% @rT/\type_of% @rQ/\type_of% @rE/\type_of% @rB/\type_of% @fI/\type_of% @fV/\type_of% @fF/\type_of% @fS/\type_of% @fP/\type_of% @fA/\type_of% @fT/\type_of% @fM/\type_of% @fE/\type_of% @fB/\type_of% @fSt/\type_of% @fEv/\type_of% @ziq/\type_of% @znw/\type_of% @znx/\type_of% @zny/\type_of% @znz/\type_of% @dR_I/\type_of% @dR_S/\type_of% @zzx/\type_of% @dR_V/\type_of% @zkj/\type_of% @dR_F/\type_of% @zzy/\type_of% @zv4/\type_of% @dR_E/\type_of% @zkk/\type_of% @dR_B/\type_of% @dR_Q/\type_of% @zo0/\type_of% @Int.sub_zero/\type_of% @Nat.zero_add/\type_of% @RR_t.{1}/\type_of% @RW_t/\type_of% @RI_t:=
 ⟨@and_true,@true_and,@implies_true.{0},@implies_true.{1},@Int.toNat_natCast,@Bool.or_eq_true,@Bool.and_eq_true,@Bool.or_eq_false_iff,@Bool.and_eq_false_iff,@Bool.not_eq_true',@decide_eq_true_eq,@decide_eq_false_iff_not,@Bool.not_eq_false',@imp_self,@beq_iff_eq.{0},@beq_eq_false_iff_ne.{0},@bne_iff_ne.{0},@bne_eq_false_iff_eq.{0},@ne_eq.{1},@Decidable.not_not,@zdz,@ze0,@ze1,@Int.ofNat_lt,@Int.ofNat_le,@Int.natCast_nonneg,@Nat.le_refl,@Nat.one_mul,@false_implies,@tri1,@Int.toNat_zero,@Int.toNat_one,@sI,@s2,@s3,@s4,@s5,@s9,@sT,@sS,@rI,@rS,@rIn,@rV,@rF,@rSt,@rT,@rQ,@rE,@rB,@fI,@fV,@fF,@fS,@fP,@fA,@fT,@fM,@fE,@fB,@fSt,@fEv,@ziq,@znw,@znx,@zny,@znz,@dR_I,@dR_S,@zzx,@dR_V,@zkj,@dR_F,@zzy,@zv4,@dR_E,@zkk,@dR_B,@dR_Q,@zo0,@Int.sub_zero,@Nat.zero_add,@RR_t.{1},@RW_t,@RI_t⟩
def LT (x:AV):Prop:=LS x x
theorem LT_t (x:AV):LT x↔True:=LS_t x
theorem z13w (a b:List Int):LS (rowI a) (rowI b)↔a.length=b.length/\∀ i:Nat,i<a.length ->AV.int .i64 (a.getD i 0)=AV.int .i64 (b.getD i 0):=Iff.of_eq (by kernel_rfl)
theorem z13x (a b:List (List UInt8)):LS (rowS a) (rowS b)↔a.length=b.length/\∀ i:Nat,i<a.length ->AV.str (a.getD i [])=AV.str (b.getD i []):=Iff.of_eq (by kernel_rfl)
theorem zv5 (a b:List Inst):LS (z4l a) (z4l b)↔a.length=b.length/\∀ i:Nat,i<a.length ->encI (a.getD i c0i)=encI (b.getD i c0i):=Iff.of_eq (by kernel_rfl)
theorem z13y (a b:List PVar):LS (rowV a) (rowV b)↔a.length=b.length/\∀ i:Nat,i<a.length ->encV (a.getD i c0v)=encV (b.getD i c0v):=Iff.of_eq (by kernel_rfl)
theorem z13z (a b:List PFun):LS (rowF a) (rowF b)↔a.length=b.length/\∀ i:Nat,i<a.length ->encF (a.getD i c0f)=encF (b.getD i c0f):=Iff.of_eq (by kernel_rfl)
theorem zv6 (a b:List PStart):LS (z8l a) (z8l b)↔a.length=b.length/\∀ i:Nat,i<a.length ->encS (a.getD i c0s)=encS (b.getD i c0s):=Iff.of_eq (by kernel_rfl)
theorem z140 (a b:List Thr):LS (rowT a) (rowT b)↔a.length=b.length/\∀ i:Nat,i<a.length ->encT (a.getD i c0t)=encT (b.getD i c0t):=Iff.of_eq (by kernel_rfl)
theorem z141 (a b:List (List Int)):LS (rowQ a) (rowQ b)↔a.length=b.length/\∀ i:Nat,i<a.length ->rowI (a.getD i [])=rowI (b.getD i []):=Iff.of_eq (by kernel_rfl)
theorem z142 (a b:List BEnt):LS (rowE a) (rowE b)↔a.length=b.length/\∀ i:Nat,i<a.length ->encE (a.getD i c0e)=encE (b.getD i c0e):=Iff.of_eq (by kernel_rfl)
theorem z143 (a b:List Buf):LS (rowB a) (rowB b)↔a.length=b.length/\∀ i:Nat,i<a.length ->encB (a.getD i c0b)=encB (b.getD i c0b):=Iff.of_eq (by kernel_rfl)
theorem z144 (a b:Mem):LS (encM a) (encM b)↔(a.vars.length=b.vars.length/\∀ i:Nat,i<a.vars.length ->AV.int .i64 (a.vars.getD i 0)=AV.int .i64 (b.vars.getD i 0))/\(a.owners.length=b.owners.length/\∀ i:Nat,i<a.owners.length ->AV.int .i64 (a.owners.getD i 0)=AV.int .i64 (b.owners.getD i 0))/\(a.queues.length=b.queues.length/\∀ i:Nat,i<a.queues.length ->rowI (a.queues.getD i [])=rowI (b.queues.getD i []))/\a.sig.length=b.sig.length/\∀ i:Nat,i<a.sig.length ->AV.int .i64 (a.sig.getD i 0)=AV.int .i64 (b.sig.getD i 0):=Iff.of_eq (by kernel_rfl)
theorem z145 (a b:Thr):LS (encT a) (encT b)↔a.id=b.id/\a.fn=b.fn/\a.pc=b.pc/\(∀ i:Nat,AV.int .i64 (a.regs.getD i 0)=AV.int .i64 (b.regs.getD i 0))/\a.steps=b.steps/\a.kids=b.kids/\a.phase=b.phase/\a.status=b.status/\a.fault=b.fault/\a.held.length=b.held.length/\∀ i:Nat,i<a.held.length ->AV.int .i64 (a.held.getD i 0)=AV.int .i64 (b.held.getD i 0):=Iff.of_eq (by kernel_rfl)
theorem z146 (a b:Inst):LS (encI a) (encI b)↔a.op=b.op/\a.a=b.a/\a.b=b.b/\a.c=b.c/\a.obj=b.obj/\a.n=b.n/\a.fn=b.fn/\a.ord=b.ord:=Iff.of_eq (by kernel_rfl)
theorem zv7 (a b:Ev):LS (z11 a) (z11 b)↔a.agent=b.agent/\a.idx=b.idx/\a.kind=b.kind/\a.obj=b.obj/\a.mutex=b.mutex/\a.entry=b.entry/\a.ord=b.ord/\a.read=b.read/\a.wrote=b.wrote:=Iff.of_eq (by kernel_rfl)
theorem z147 (a b:Buf):LS (encB a) (encB b)↔a.thread=b.thread/\a.first=b.first/\a.entries.length=b.entries.length/\∀ i:Nat,i<a.entries.length ->encE (a.entries.getD i c0e)=encE (b.entries.getD i c0e):=Iff.of_eq (by kernel_rfl)
theorem z148 (a b:PProg):LS (encP a) (encP b)↔(a.vars.length=b.vars.length/\∀ i:Nat,i<a.vars.length ->encV (a.vars.getD i c0v)=encV (b.vars.getD i c0v))/\(a.muts.length=b.muts.length/\∀ i:Nat,i<a.muts.length ->AV.str (a.muts.getD i [])=AV.str (b.muts.getD i []))/\(a.conds.length=b.conds.length/\∀ i:Nat,i<a.conds.length ->AV.str (a.conds.getD i [])=AV.str (b.conds.getD i []))/\(a.funs.length=b.funs.length/\∀ i:Nat,i<a.funs.length ->encF (a.funs.getD i c0f)=encF (b.funs.getD i c0f))/\a.thr.length=b.thr.length/\∀ i:Nat,i<a.thr.length ->encS (a.thr.getD i c0s)=encS (b.thr.getD i c0s):=Iff.of_eq (by kernel_rfl)
theorem zv8 (a b:SState):LS (ze a) (ze b)↔(a.thr.length=b.thr.length/\∀ i:Nat,i<a.thr.length ->encT (a.thr.getD i c0t)=encT (b.thr.getD i c0t))/\((a.mem.vars.length=b.mem.vars.length/\∀ i:Nat,i<a.mem.vars.length ->AV.int .i64 (a.mem.vars.getD i 0)=AV.int .i64 (b.mem.vars.getD i 0))/\(a.mem.owners.length=b.mem.owners.length/\∀ i:Nat,i<a.mem.owners.length ->AV.int .i64 (a.mem.owners.getD i 0)=AV.int .i64 (b.mem.owners.getD i 0))/\(a.mem.queues.length=b.mem.queues.length/\∀ i:Nat,i<a.mem.queues.length ->rowI (a.mem.queues.getD i [])=rowI (b.mem.queues.getD i []))/\a.mem.sig.length=b.mem.sig.length/\∀ i:Nat,i<a.mem.sig.length ->AV.int .i64 (a.mem.sig.getD i 0)=AV.int .i64 (b.mem.sig.getD i 0))/\a.bufs.length=b.bufs.length/\∀ i:Nat,i<a.bufs.length ->encB (a.bufs.getD i c0b)=encB (b.bufs.getD i c0b):=Iff.of_eq (by kernel_rfl)
theorem SX:type_of% @z13w/\type_of% @z13x/\type_of% @zv5/\type_of% @z13y/\type_of% @z13z/\type_of% @zv6/\type_of% @z140/\type_of% @z141/\type_of% @z142/\type_of% @z143/\type_of% @z144/\type_of% @z145/\type_of% @z146/\type_of% @zv7/\type_of% @z147/\type_of% @z148/\type_of% @zv8/\type_of% @LT_t:=
 ⟨@z13w,@z13x,@zv5,@z13y,@z13z,@zv6,@z140,@z141,@z142,@z143,@z144,@z145,@z146,@zv7,@z147,@z148,@zv8,@LT_t⟩
theorem zo1 {h h':List (Nat×BoxC)} {x:AV}:AV.le h h' x x:=leG_le _ _ _ _ (le_refl _ _ x)
theorem tysT {C:Cfg} (hP:C.P=Tryz.prog) (hT:C.T=TT):z1d C:=by
 cases C
 cases hP
 cases hT
 exact z3g (by kernel_rfl)
theorem Kn (V:VCtx) {G:List (Nat×AV)} {f:FuncId} {fn:Func} {args:List AV} {r:AV} (hf:Tryz.prog.funcs[f]? =some fn) (N:Prop) (h:N) (e:fnVc V fn args r=N:=by kernel_rfl)
 (hok : ((fn.name == "runtime.NumGoroutine") || fn.body.isNone || !Nat.beq fn.ntmps V.C.ntmps || !Nat.ble args.length V.C.ntmps) = false := by kernel_rfl)
 (hP:V.C.P=Tryz.prog:=by exact rfl) (hT:V.C.T=TT:=by exact rfl) (hG:V.C.G=G:=by exact rfl) (hC:V.CC=Known Tryz.prog G:=by exact rfl)
 (hF:∀ f ga r cs,V.C.CCF f ga r cs ->KnownF Tryz.prog G f ga r cs:=by first |exact fun _ _ _ _ h=>False.elim h |exact fun _ _ _ _ h=>h):Known Tryz.prog G f args r:=by
 have :=Known.of (V:=V) (hP ▸ hf) hok (tysT hP hT) (by rw[hC,hP,hG]) (e ▸ h) (by rw[hP,hG];exact hF)
 rwa [hP,hG]at this
theorem KnF (V:VCtx) {G:List (Nat×AV)} {f:FuncId} {fn:Func} {args:List AV} {r:AV} {cs:List BoxC} (hf:Tryz.prog.funcs[f]? =some fn) (N:Prop) (h:N) (e:z6v V fn args r cs=N:=by kernel_rfl)
 (hok : ((fn.name == "runtime.NumGoroutine") || fn.body.isNone || !Nat.beq fn.ntmps V.C.ntmps || !Nat.ble args.length V.C.ntmps) = false := by kernel_rfl)
 (hP:V.C.P=Tryz.prog:=by exact rfl) (hT:V.C.T=TT:=by exact rfl) (hG:V.C.G=G:=by exact rfl) (hC:V.CC=Known Tryz.prog G:=by exact rfl)
 (hF:∀ f ga r cs,V.C.CCF f ga r cs ->KnownF Tryz.prog G f ga r cs:=by first |exact fun _ _ _ _ h=>False.elim h |exact fun _ _ _ _ h=>h):KnownF Tryz.prog G f args r cs:=by
 have :=KnownF.of (V:=V) (hP ▸ hf) hok (tysT hP hT) (by rw[hC,hP,hG]) (e ▸ h) (by rw[hP,hG];exact hF)
 rwa [hP,hG]at this
theorem zkl (i:Int) (n:Nat):inIx i n↔0<=i/\i<(n:Int):=Iff.rfl
theorem SZ:type_of% @SB/\type_of% @SX/\type_of% @zkl:=⟨SB,SX,zkl⟩
def iv (n:Nat) (S:Nat ->St):Option Inv:=some {ι:=Nat,S:=S,μ:=fun i=>n - i,ok:=fun i=>i<=n}
def iw (n:Nat) (S:Nat ->St) (P:Nat ->Prop):Option Inv:=some {ι:=Nat,S:=S,μ:=fun i=>n - i,ok:=fun i=>i<=n/\P i}
abbrev KN (f:FuncId) (a:List AV) (r:AV):Prop:=Known Tryz.prog GG f a r
abbrev KF (f:FuncId) (a:List AV) (r:AV) (c:List BoxC):Prop:=KnownF Tryz.prog GG f a r c
def wr (n:Int):Int:=(n+2147483648) % 4294967296 - 2147483648
def tru (b:Bool):Int:=bif b then 1 else 0
def low (n:Int):Nat:=(n % 4294967296).toNat
def bop (g:Nat ->Nat ->Nat) (x y:Int):Int:=wr (g (low x) (low y):Nat)
def app (f a b:Int):Int×Int:=
 if f=1 then(wr (wr a+wr b),0)
 else if f=2 then(wr (wr a - wr b),0)
 else if f=3 then(wr (wr a*wr b),0)
 else if f=4 then(bop (· &&& ·) a b,0)
 else if f=5 then(bop (· ||| ·) a b,0)
 else if f=6 then(bop (· ^^^ ·) a b,0)
 else if f=7 then(tru (wr a==wr b),0)
 else if f=8 then(tru (wr a !=wr b),0)
 else if f=9 then(tru (decide (wr a<wr b)),0)
 else if f=10 then(tru (decide (wr a<=wr b)),0)
 else(0,8)
def z42 (r:Nat ->Int) (X Y:Nat):Nat ->Int
 |0=>0
 |n+1=>z42 r X Y n+2 ^ n*r (2*(X/2 ^ n % 2)+Y/2 ^ n % 2)
def spV:FuncId ->List AV ->Option AV
 |204,[.int _ n] |221,[.int _ n]=>some (.int .i64 (wr n))
 |241,[.bool b] |223,[.bool b]=>some (.int .i64 (tru b))
 |176,[.int _ f, .int _ a, .int _ b] |136,[.int _ f, .int _ a, .int _ b]=>some (.tup [.int .i64 (app f a b).1, .int .i64 (app f a b).2])
 |222,[.int _ x, .int _ y, .mc _ (.arr _ r)]=>some (.int .i64 (wr (z42 (fun i=>dI (r i)) (low x) (low y) 32)))
 |266,[.int _ f] |256,[.int _ f]=>some (.str (nameF f))
 |_,_=>none
noncomputable def vV (n:Nat) (inv:Nat ->Option Inv):VCtx:={C:=cfgT n,CC:=Known Tryz.prog GG,orc:=fun _ _=>spV,inv:=inv}
end
end Go.Proofs.S25
