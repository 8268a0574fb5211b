import Derived.Test.YtgcpdfihjmmggaaGreatDoorXzn
import Derived.Test.YtgcpdfihjmmggaaGreatDoorXze
namespace Go.Proofs.S25
open Go Go.AV Tryz Go.RowKit
theorem rO {t s:Nat} {z y:AV} (h:AV.get [(t,z)] s=some y):s=t/\y=z:=by grind[AV.get,xc]
theorem zjw {t f s:Nat} {z e y:AV} (h:AV.get [(t,z),(f,e)] s=some y):(s=t/\y=z)∨s=f/\y=e:=by grind[AV.get,xc]
theorem zv0 {w:World} {F:Nat ->Prop} {N:Nat ->Prop} {v:Value} {l:List Int} (h:au w F v (fg N l)):au w F v (a8 l):=by
 unfold fg at h;unfold a8;generalize l.length=n at h ⊢;cases h with
 |fJ=>exact .cH _ _ _ _
 |cz _ g o _ cap _ _ k j _ _ f i e=>exact .seq g o _ _ .ey _ k j f i e
theorem aav {C:ls} {W0:AV.lw} {F0:Nat ->Prop} {env l:List (Nat×AV)} {H:List (Nat×ar)} {a:Act} {w:World} {F:Nat ->Prop} {φ:Nat ->AV.Place} (h:li C W0 F0 ⟨env,H⟩ a w F φ) (hl:∀ s x,AV.get l s=some x ->AV.get env s=some x):li C W0 F0 ⟨l,H⟩ a w F φ:=
 ⟨λs x hs=>h.env s x (hl s x hs),h.heap,h.inj,h.ro,h.base,h.sub,h.new,h.dfr,h.iC,h.ol,h.gV⟩
section
variable {N:Nat ->Prop} {m:i8} {c id:Int} {W0:AV.lw} {F0:Nat ->Prop} {a:Act} {w:World} {F:Nat ->Prop} {φ:Nat ->AV.Place} {D:Nat ->Bool} {Q:Exit ->Act ->World ->Prop}
theorem ain {s:Nat} {x:AV} (h:AV.get (S7 N m c id).env s=some x):qU x=true:=by
 simp[S7,AV.get]at h;repeat' split at h
 all_goals (cases h;try rfl)
theorem adl {k:Nat} {y:AV} (h:fx N m c id k=some y) (f:k≠7) (h2:k≠9) (e:k≠10):qU y=true:=by
 unfold fx at h;split at h;all_goals first
  |cases h;rfl
  |cases h;done
  |exact absurd rfl f
  |exact absurd rfl h2
  |exact absurd rfl e
theorem aec {f f':Nat ->AV} (b:Nat):AV.get (AV.put (HQ m f) 114690 (.row 29 .ey m.a6.length f')) b=AV.get (HQ m f') b:=by
 by_cases e:b=114690;subst e;rw[zv];rfl;rw[zb _ _ _ _ e];simp[HQ,AV.get,Z7 (Ne.symm e)]
theorem ajw (hM:jZ m) (a2:0<=c) (Y:c.toNat<m.a6.length) (hq:(m.a6.getD c.toNat []).length<=1000000) (a1:aM .i64 id) (a3:∀ k,N k ->¬ F0 k) (hL:∀ k,¬ W0.L k) (hA:∀ b,W0.A b=none) (hG:∀ g x,AV.get (GN N) g=some x ->au W0.w F0 (.pointer (some ⟨g,0,none⟩)) x) (a4:∀ k,F0 k ->k<W0.w.heap.size)
 {i:Nat} {o:Oper} (X:gJ[i]? =some o) (E:D i=false) (R:∀ e∈o.after.toList,Region.binds .any e=true ->D e.on=true) (u:I8 N m c id W0 F0 D a w):o.guard=none/\o.wp prog a w (I8 N m c id W0 F0 λk=>D k || Nat.beq k i) Q:=by
 have hi:i<13:=by rw[<- sz8];exact(xj.1 X).1
 have f:=zn4 u.1 X R;have an:=Gi u.1 i o X R;have H:∀ k,gJ[k]? =some (o8 k) ->((mg gJ.toList []).getD k 0).testBit i=true ->D k=false:=λk ho' hb=>by
  cases hk:D k with
  |false=>rfl
  |true=>
   have :=Gi u.1 k _ ho' (u.1 k _ hk ho') i hb;rw[E]at this;cases this
 have eo:=akv X;have ok:∀ k,(Nat.beq k 7 || Nat.beq k 9)=false ->(D 10&&(Nat.beq k 7 || Nat.beq k 9))=false:=λk h=>by rw[h,Bool.and_false]
 have ix:∀ p∈[af c m.a6.length],p:=λp hp=>by rw[jt.1 hp];exact⟨a2,O⟩
 have V:D 10=false ->(bif D 10 then fU N m c else fN N m)=fN N m:=λh=>by rw[h];rfl
 match i,hi with
 |0,_=>exact⟨by rw[eo];kernel_rfl,qR eo am am (p0 N m _) rfl ap (H 12 ac ac) f u λs y hs=>by obtain⟨rfl,rfl⟩:=rO hs;exact .inl rfl⟩
 |1,_=>exact⟨by rw[eo];kernel_rfl,qR eo am am (p1 N m _) rfl ap (H 12 ac ac) f u λs y hs=>by obtain⟨rfl,rfl⟩:=rO hs;exact .inr ⟨0,rfl,an 0 ac,ok 0 rfl,rfl⟩⟩
 |2,_=>exact⟨by rw[eo];kernel_rfl,qR eo am am (p2 N m c _) rfl ap (H 12 ac ac) f u λs y hs=>by obtain⟨rfl,rfl⟩:=rO hs;exact .inl rfl⟩
 |3,_=>exact⟨by rw[eo];kernel_rfl,qR eo am am (p3 N m _) rfl ap (H 12 ac ac) f u λs y hs=>by obtain⟨rfl,rfl⟩:=rO hs;exact .inl rfl⟩
 |4,_=>exact⟨by rw[eo];kernel_rfl,qR eo am am (p4 N m _) rfl ap (H 12 ac ac) f u λs y hs=>by obtain⟨rfl,rfl⟩:=rO hs;exact .inr ⟨3,rfl,an 3 ac,ok 3 rfl,rfl⟩⟩
 |5,_=>exact⟨by rw[eo];kernel_rfl,qR eo am am (p5 N m c _) rfl ap (H 12 ac ac) f u λs y hs=>by obtain⟨rfl,rfl⟩:=rO hs;exact .inl rfl⟩
 |6,_=>exact⟨by rw[eo];kernel_rfl,qR eo am am (p6 N m c _) rfl ix (H 12 ac ac) f u λs y hs=>by
  rcases zjw hs with⟨rfl,rfl⟩ | ⟨rfl,rfl⟩
  exact .inr ⟨4,rfl,an 4 ac,ok 4 rfl,rfl⟩;exact .inr ⟨5,rfl,an 5 ac,ok 5 rfl,rfl⟩⟩
 |7,_=>exact⟨by rw[eo];kernel_rfl,qR eo am am (by rw[V (H 10 ac ac)];exact p7 N m c) rfl (λp hp=>by rw[jt.1 hp];exact Y) (H 12 ac ac) f u λs y hs=>by obtain⟨rfl,rfl⟩:=rO hs;exact .inr ⟨6,rfl,an 6 ac,ok 6 rfl,rfl⟩⟩
 |8,_=>exact⟨by rw[eo];kernel_rfl,qR eo am am (p8 N m id _) rfl ap (H 12 ac ac) f u λs y hs=>by obtain⟨rfl,rfl⟩:=rO hs;exact .inl rfl⟩
 |9,_=>exact⟨by rw[eo];kernel_rfl,qR eo am am (p9 N m id _) rfl (λp hp=>by rw[jt.1 hp];decide) (H 12 ac ac) f u λs y hs=>by obtain⟨rfl,rfl⟩:=rO hs;exact .inr ⟨8,rfl,an 8 ac,ok 8 rfl,rfl⟩⟩
 |11,_=>exact⟨by rw[eo];kernel_rfl,qR eo am am (p11 N m c _) rfl ix (H 12 ac ac) f u λs y hs=>by
  rcases zjw hs with⟨rfl,rfl⟩ | ⟨rfl,rfl⟩
  exact .inr ⟨1,rfl,an 1 ac,ok 1 rfl,rfl⟩;exact .inr ⟨2,rfl,an 2 ac,ok 2 rfl,rfl⟩⟩
 |10,_=>
  refine⟨by rw[eo];kernel_rfl, ?_⟩;have h12:=H 12 ac ac;have u:=u.2;rw[h12]at u;have⟨env,F,φ,U,hb,hf⟩:=u;rw[V E]at U;refine aht eo hM Y hq a1 a3 hL hA hG a4 U (hf 7 _ (an 7 ac) (by rw[E];rfl) rfl) (hf 9 _ (an 9 ac) (by rw[E];rfl) rfl) λenv' a' w' F' φ' hR' h1 h2=>⟨f, ?_⟩;have e:(D 12 || Nat.beq 12 10)=false:=by rw[h12];rfl
  have e2:(D 10 || Nat.beq 10 10)=true:=by rw[E];rfl
  simp only[e,e2];refine⟨env',F',φ',hR',λs y hs=>h2 s y (by have :=zg4 hs;omega) (by have :=zg4 hs;omega) (by have :=zg4 hs;omega) (hb s y hs) (ain hs),λk y hk hk2 hk3=>?_⟩;by_cases e10:k=10;subst e10;cases hk3;exact h1;rw[Z7 e10,jq]at hk;have n7:k≠7:=λe=>by subst e;cases hk2
  have n9:k≠9:=λe=>by subst e;cases hk2
  exact h2 (28+k) y O O O (hf k y hk (by rw[E];rfl) hk3) (adl hk3 n7 n9 e10)
 |12,_=>
  refine⟨by rw[eo];kernel_rfl, ?_⟩;have J:=an 10 ac;have u:=u.2;rw[E]at u;have⟨env,F,φ,U,hb,hf⟩:=u;simp only[J,cond_true]at U;have hS:li (z5c N m 45) W0 F0 ⟨C8 m c id,HQ m (fU N m c)⟩ a w F φ:=aav U λs x hs=>by
   simp only[C8,AV.get]at hs;repeat' split at hs
   rename_i e;have :=xc e;subst this;cases hs;exact hf 10 _ J (by rw[J];rfl) rfl;rename_i e;have :=xc e;subst this;cases hs;exact hf 11 _ (an 11 ac) (by rw[J];rfl) rfl;rename_i e;have :=xc e;subst this;cases hs;exact hb 8 _ rfl;rename_i e;have :=xc e;subst this;cases hs;exact hb 6 _ rfl;cases hs
  rw[eo];have :=C0 (Q:=Q) (ops:=gJ) (K:=I8 N m c id W0 F0 λk=>D k || Nat.beq k 12) hS (Cq N m 45) ccE (p12 N m c id) (λp hp=>by rw[jt.1 hp];exact Y) λa' w' F' φ' hR'=>⟨f,by
   have e:(D 12 || Nat.beq 12 12)=true:=by rw[E];rfl
   simp only[e];refine⟨F',φ', ?_⟩;have h1:li (z5c N m 45) W0 F0 ⟨C8 m c id,HQ m (f12 N m c id)⟩ a' w' F' φ':=hR'.alike (λ_=>rfl) λb=>(aec b).symm;have h2:=Yb (f':=λj=>a8 ((mr m c id).a6.getD j [])) h1 λj hj v hv=>by
    have hv:au w' F' v (f12 N m c id j):=by
     have :z6 .ey (f12 N m c id j) 0=f12 N m c id j:=by
      unfold f12 fU;split;rfl;rfl
     rw[this]at hv;exact hv
    show au _ _ _ (a8 ((m.a6.set c.toNat (m.a6.getD c.toNat []++[id])).getD j []));unfold f12 fU at hv;by_cases Z:j=c.toNat;subst Z;rw[x9 rfl]at hv;rw[x7 (l:=m.a6.set _ _),List.getElem?_set_self Y];exact hv;rw[x8 Z,x8 Z]at hv;rw[x7 (l:=m.a6.set _ _),k9 (Ne.symm Z),<- x7];exact zv0 hv
   have h3:=aav (l:=[(8, .ptr 8 []),(6, .ptr 6 [])]) h2 λs x hs=>by
    rcases zjw hs with⟨rfl,rfl⟩ | ⟨rfl,rfl⟩<;>rfl
   have el:HQ (mr m c id)=HQ m:=by unfold HQ aa8 mr;simp only[yy]
   unfold S8;rw[el];exact h3⟩
  rw[x9 (by rw[Region.wanted];rfl)]at this;exact this
theorem afi (V:jZ m) (u:0<=c) (U:c.toNat<m.a6.length) (Q:(m.a6.getD c.toNat []).length<=1000000) (r:aM .i64 id) (y:∀ k,N k ->¬ F0 k) (X:∀ k,¬ W0.L k) (Z:∀ b,W0.A b=none) (Y:∀ g x,AV.get (GN N) g=some x ->au W0.w F0 (.pointer (some ⟨g,0,none⟩)) x) (H:∀ k,F0 k ->k<W0.w.heap.size)
 (K:li (z5c N m 45) W0 F0 (S7 N m c id) a w F φ):(Code.region 8 gJ true).wp prog (λe a' M=>e= .normal/\∃ F φ,li (z5c N m 45) W0 F0 (S8 (mr m c id)) a' M F φ) a w:=by
 refine zux (I8 N m c id W0 F0) ac ⟨λk o f=>(by cases f), ?_⟩ (λD i o a w R J s E=>ajw V u U Q r y X Z Y H R J s E) λD a w j E=>⟨rfl, ?_⟩;exact⟨_,F,φ,K.grown ⟨rfl,rfl,rfl,xm _,λ_ _=>rfl⟩ (λ_ f=>f) (λ_ f=> .inl f) K.ro,λ_ _ h=>h,λi x h=>by cases h⟩;have h:=E.2;rw[j 12 (by rw[sz8];decide)]at h;exact h
end
theorem eqB:f97.body=some uY:=ac
theorem ae2:wK:=λm c id hm=> .inl ⟨jH.of (fn:=f97) func97 ac ac,λw F vs hro hgl hsz hr=>by
 obtain⟨N,hN⟩:∃ N:Nat ->Prop,N=λk=>¬ F k:=⟨_,rfl⟩
 have hglN:∀ g x,AV.get (GN N) g=some x ->au w F (.pointer (some ⟨g,0,none⟩)) x:=λg x hg=>by
  simp only[GN,AV.get]at hg
  split at hg
  cases hg;exact .jS _ _ rfl λk=>by rw[hN];exact Classical.em (F k)
  exact hgl g x hg
 have hid:aM .i64 id:=(zbj (hr 2 (show 2<3 by decide))).2
 have hR:=li.start (C:=z5c N m 45) (fn:=f97) (args:=[vM m,d9 c,d9 id]) ac (show 3<=45 by decide) hro hglN hsz hr
 have s3:=hm.a6
 have fin:∀ {a':Act} {w':World} {F':Nat ->Prop} {φ':Nat ->AV.Place},li (z5c N m 45) (.of w) F (SR m c id) a' w' F' φ' ->bodyPost prog f97 (λen w'=>∃ v F',en= .returned v/\Below w.heap.size w w'/\(∀ k,F k ->F' k)/\(∀ k,F' k ->F k∨w.heap.size<=k)/\(∀ k,F' k ->k<w'.heap.size)/\dx w' F' v (.av [vM (aZ m c id).1,d9 (aZ m c id).2])) .ret a' w':=λhR=>⟨hR.dfr,zkg (V:=Yt N m c id 45 λ_=>[]) (fn:=f97) (r:= .av [vM (aZ m c id).1,d9 (aZ m c id).2]) (Cq N m 45) hR (by
  have e:(match znt (z5c N m 45) (SR m c id) f97.results.toList with |some (x,ps)=>AT ps (AV.wz [] [] x (.av [vM (aZ m c id).1, .int .i64 (aZ m c id).2])).P |none=>False)=(AV.wz [] [] (.av [vM (aZ m c id).1, .int .i64 (aZ m c id).2]) (.av [vM (aZ m c id).1, .int .i64 (aZ m c id).2])).P:=ac
  exact Eq.mpr e (le_refl _ _ _))⟩
 refine calls_of_wp func97 eqB (zs9 (V:=Yt N m c id 45 λ_=>[]) (Cq N m 45) ccE (λ_=>rfl) 4 uY ⟨z87 0 [vM m,d9 c,d9 id],[]⟩ (pB (some (ca m=true/\bC m c m.a6.length=0/\¬ id<0,S7 N m c id)) none (some (True,SR m c id))) _ _ _ _ (aic N m c id hm) hR ?_)
 rintro e st' a' w' F' φ' h1 h2
 cases e with
 |normal=>
  have⟨⟨hfm,hins,hlt⟩,hle⟩:=h2
  have⟨φ2,hR2⟩:=h1.weaken hle
  have hc:=kM hins
  have hq:=hm.q c.toNat
  show(vY 4 uY).wp prog _ a' w'
  rw[ajt]
  refine wp_seq (wp_mono (afi (z47.1 hfm) O O O hid (λk hk=>by rw[hN]at hk;exact hk) (λ_ h=>h) (λ_=>rfl) hglN hro hR2) ?_)
  rintro e a3 w3 ⟨rfl,F3,φ3,hR3⟩
  refine wp_mono (YL (V:=Yt N m c id 45 fzR) (Cq N m 45) ccE (vY 5 uY) (S8 (mr m c id)) (pB none none (some (True,SR m c id))) _ _ _ _ (ajx N m c id hm hfm hins hlt) hR3) ?_
  rintro e a4 w4 ⟨st4,F4,φ4,hR4,hq4⟩
  cases e with
  |ret=>
   have⟨φ5,hR5⟩:=hR4.weaken hq4.2
   exact fin hR5
  |_=>exact hq4.elim
 |ret=>
  have⟨φ2,hR2⟩:=h1.weaken h2.2
  exact fin hR2
 |_=>exact h2.elim⟩
end Go.Proofs.S25
