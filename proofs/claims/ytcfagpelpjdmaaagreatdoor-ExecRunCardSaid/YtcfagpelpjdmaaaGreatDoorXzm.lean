import Derived.Test.YtcfagpelpjdmaaaGreatDoorXzl
import Derived.Test.YtcfagpelpjdmaaaGreatDoorXzh
namespace Go.Proofs.S25
open Go Go.AV Go.RowKit
theorem uJ {t s:Nat} {z y:AV} (h:AV.get [(t,z)] s=some y):s=t/\y=z:=by grind[AV.get,xc]
theorem zjw {t f s:Nat} {z e y:AV} (h:AV.get [(t,z),(f,e)] s=some y):(s=t/\y=z)∨s=f/\y=e:=by grind[AV.get,xc]
theorem zv0 {w:World} {F:Nat ->Prop} {N:Nat ->Prop} {v:Value} {l:List Int} (h:ay w F v (gK N l)):ay w F v (ab l):=by
 unfold gK at h
 unfold ab
 generalize l.length=n at h ⊢
 cases h with
 |im=>exact .db _ _ _ _
 |cM _ g o _ cap _ _ k j _ _ f i e=>exact .seq g o _ _ .leaf _ k j f i e
theorem adn {C:bt} {W0:AV.Entry} {F0:Nat ->Prop} {env l:List (Nat×AV)} {H:List (Nat×aw)} {a:Act} {w:World} {F:Nat ->Prop} {φ:Nat ->AV.Place} (h:Rel C W0 F0 ⟨env,H⟩ a w F φ) (hl:∀ s x,AV.get l s=some x ->AV.get env s=some x):Rel C W0 F0 ⟨l,H⟩ a w F φ:=
 ⟨λs x hs=>h.env s x (hl s x hs),h.heap,h.inj,h.ro,h.base,h.sub,h.new,h.cW,h.fW,h.bZ,h.gY⟩
section
variable {N:Nat ->Prop} {m:Mem} {c id:Int} {W0:AV.Entry} {F0:Nat ->Prop} {a:Act} {w:World} {F:Nat ->Prop} {φ:Nat ->AV.Place} {D:Nat ->Bool} {Q:Exit ->Act ->World ->Prop}
theorem aib {s:Nat} {x:AV} (h:AV.get (S7 N m c id).env s=some x):uf x=true:=by
 simp[S7,AV.get]at h
 repeat' split at h
 all_goals (cases h;try rfl)
theorem am5 {k:Nat} {y:AV} (h:fx N m c id k=some y) (f:k≠7) (h2:k≠9) (e:k≠10):uf y=true:=by
 unfold fx at h
 split at h
 all_goals first
  |cases h;rfl
  |cases h;done
  |exact absurd rfl f
  |exact absurd rfl h2
  |exact absurd rfl e
theorem akv {f f':Nat ->AV} (b:Nat):AV.get (AV.put (HQ m f) 114690 (.row 31 .leaf m.aa.length f')) b=AV.get (HQ m f') b:=by
 by_cases e:b=114690
 . subst e;rw[zv];rfl
 . rw[zb _ _ _ _ e]
   simp[HQ,AV.get,zhx (Ne.symm e)]
theorem ao1 (hM:kW m) (W:0<=c) (R:c.toNat<m.aa.length) (hq:(m.aa.getD c.toNat []).length<=1000000) (V:aU .i64 id) (X:∀ k,N k ->¬ F0 k) (hL:∀ k,¬ W0.L k) (hA:∀ b,W0.A b=none) (hG:∀ g x,AV.get (GN N) g=some x ->ay W0.w F0 (.pointer (some ⟨g,0,none⟩)) x) (Y:∀ k,F0 k ->k<W0.w.heap.size)
 {i:Nat} {o:Oper} (O:iE[i]? =some o) (u:D i=false) (H:∀ e∈o.after.toList,Region.binds .any e=true ->D e.on=true) (r:I8 N m c id W0 F0 D a w):o.guard=none/\o.wp Tryz.prog a w (I8 N m c id W0 F0 λk=>D k || Nat.beq k i) Q:=by
 have hi:i<13:=by rw[<- sz8];exact(xi.1 O).1
 have f:=zn4 r.1 O H
 have an:=Pg r.1 i o O H
 have z:∀ k,iE[k]? =some (o8 k) ->((nJ iE.toList []).getD k 0).testBit i=true ->D k=false:=λk ho' hb=>by
  cases hk:D k with
  |false=>rfl
  |true=>
   have :=Pg r.1 k _ ho' (r.1 k _ hk ho') i hb
   rw[u]at this;cases this
 have eo:=ale O
 have ok:∀ k,(Nat.beq k 7 || Nat.beq k 9)=false ->(D 10&&(Nat.beq k 7 || Nat.beq k 9))=false:=λk h=>by rw[h,Bool.and_false]
 have ix:∀ p∈[ai c m.aa.length],p:=λp hp=>by rw[xz.1 hp];exact⟨W,ac⟩
 have M:D 10=false ->(bif D 10 then fU N m c else fN N m)=fN N m:=λh=>by rw[h];rfl
 match i,hi with
 |0,_=>exact⟨by rw[eo];kernel_rfl,tB eo ap ap (p0 N m _) rfl be (z 12 am am) f r λs y hs=>by obtain⟨rfl,rfl⟩:=uJ hs;exact .inl rfl⟩
 |1,_=>exact⟨by rw[eo];kernel_rfl,tB eo ap ap (p1 N m _) rfl be (z 12 am am) f r λs y hs=>by obtain⟨rfl,rfl⟩:=uJ hs;exact .inr ⟨0,rfl,an 0 am,ok 0 rfl,rfl⟩⟩
 |2,_=>exact⟨by rw[eo];kernel_rfl,tB eo ap ap (p2 N m c _) rfl be (z 12 am am) f r λs y hs=>by obtain⟨rfl,rfl⟩:=uJ hs;exact .inl rfl⟩
 |3,_=>exact⟨by rw[eo];kernel_rfl,tB eo ap ap (p3 N m _) rfl be (z 12 am am) f r λs y hs=>by obtain⟨rfl,rfl⟩:=uJ hs;exact .inl rfl⟩
 |4,_=>exact⟨by rw[eo];kernel_rfl,tB eo ap ap (p4 N m _) rfl be (z 12 am am) f r λs y hs=>by obtain⟨rfl,rfl⟩:=uJ hs;exact .inr ⟨3,rfl,an 3 am,ok 3 rfl,rfl⟩⟩
 |5,_=>exact⟨by rw[eo];kernel_rfl,tB eo ap ap (p5 N m c _) rfl be (z 12 am am) f r λs y hs=>by obtain⟨rfl,rfl⟩:=uJ hs;exact .inl rfl⟩
 |6,_=>exact⟨by rw[eo];kernel_rfl,tB eo ap ap (p6 N m c _) rfl ix (z 12 am am) f r λs y hs=>by
  rcases zjw hs with⟨rfl,rfl⟩ | ⟨rfl,rfl⟩
  . exact .inr ⟨4,rfl,an 4 am,ok 4 rfl,rfl⟩
  . exact .inr ⟨5,rfl,an 5 am,ok 5 rfl,rfl⟩⟩
 |7,_=>exact⟨by rw[eo];kernel_rfl,tB eo ap ap (by rw[M (z 10 am am)];exact p7 N m c) rfl (λp hp=>by rw[xz.1 hp];exact R) (z 12 am am) f r λs y hs=>by obtain⟨rfl,rfl⟩:=uJ hs;exact .inr ⟨6,rfl,an 6 am,ok 6 rfl,rfl⟩⟩
 |8,_=>exact⟨by rw[eo];kernel_rfl,tB eo ap ap (p8 N m id _) rfl be (z 12 am am) f r λs y hs=>by obtain⟨rfl,rfl⟩:=uJ hs;exact .inl rfl⟩
 |9,_=>exact⟨by rw[eo];kernel_rfl,tB eo ap ap (p9 N m id _) rfl (λp hp=>by rw[xz.1 hp];decide) (z 12 am am) f r λs y hs=>by obtain⟨rfl,rfl⟩:=uJ hs;exact .inr ⟨8,rfl,an 8 am,ok 8 rfl,rfl⟩⟩
 |11,_=>exact⟨by rw[eo];kernel_rfl,tB eo ap ap (p11 N m c _) rfl ix (z 12 am am) f r λs y hs=>by
  rcases zjw hs with⟨rfl,rfl⟩ | ⟨rfl,rfl⟩
  . exact .inr ⟨1,rfl,an 1 am,ok 1 rfl,rfl⟩
  . exact .inr ⟨2,rfl,an 2 am,ok 2 rfl,rfl⟩⟩
 |10,_=>
  refine⟨by rw[eo];kernel_rfl, ?_⟩
  have h12:=z 12 am am
  have r:=r.2
  rw[h12]at r
  have⟨env,F,φ,J,hb,hf⟩:=r
  rw[M u]at J
  refine alf eo hM R hq V X hL hA hG Y J (hf 7 _ (an 7 am) (by rw[u];rfl) rfl) (hf 9 _ (an 9 am) (by rw[u];rfl) rfl) λenv' a' w' F' φ' hR' h1 h2=>⟨f, ?_⟩
  have e:(D 12 || Nat.beq 12 10)=false:=by rw[h12];rfl
  have e2:(D 10 || Nat.beq 10 10)=true:=by rw[u];rfl
  simp only[e,e2]
  refine⟨env',F',φ',hR',λs y hs=>h2 s y (by have :=zg4 hs;omega) (by have :=zg4 hs;omega) (by have :=zg4 hs;omega) (hb s y hs) (aib hs),λk y hk hk2 hk3=>?_⟩
  by_cases e10:k=10
  . subst e10;cases hk3;exact h1
  . rw[zhx e10,Bool.or_false]at hk
    have Z:k≠7:=λe=>by subst e;cases hk2
    have n9:k≠9:=λe=>by subst e;cases hk2
    exact h2 (28+k) y ac ac ac (hf k y hk (by rw[u];rfl) hk3) (am5 hk3 Z n9 e10)
 |12,_=>
  refine⟨by rw[eo];kernel_rfl, ?_⟩
  have E:=an 10 am
  have r:=r.2
  rw[u]at r
  have⟨env,F,φ,J,hb,hf⟩:=r
  simp only[E,cond_true]at J
  have hS:Rel (lr N m 45) W0 F0 ⟨FY m c id,HQ m (fU N m c)⟩ a w F φ:=adn J λs x hs=>by
   simp only[FY,AV.get]at hs
   repeat' split at hs
   . rename_i e;have :=xc e;subst this;cases hs;exact hf 10 _ E (by rw[E];rfl) rfl
   . rename_i e;have :=xc e;subst this;cases hs;exact hf 11 _ (an 11 am) (by rw[E];rfl) rfl
   . rename_i e;have :=xc e;subst this;cases hs;exact hb 8 _ rfl
   . rename_i e;have :=xc e;subst this;cases hs;exact hb 6 _ rfl
   . cases hs
  rw[eo]
  have :=Vw (Q:=Q) (ops:=iE) (K:=I8 N m c id W0 F0 λk=>D k || Nat.beq k 12) hS (NL N m 45) ccE (p12 N m c id) (λp hp=>by rw[xz.1 hp];exact R) λa' w' F' φ' hR'=>⟨f,by
   have e:(D 12 || Nat.beq 12 12)=true:=by rw[u];rfl
   simp only[e]
   refine⟨F',φ', ?_⟩
   have h1:Rel (lr N m 45) W0 F0 ⟨FY m c id,HQ m (f12 N m c id)⟩ a' w' F' φ':=hR'.alike (λ_=>rfl) λb=>(akv b).symm
   have h2:=adk (f':=λj=>ab ((oc m c id).aa.getD j [])) h1 λj hj v hv=>by
    have hv:ay w' F' v (f12 N m c id j):=by
     have :z6 .leaf (f12 N m c id j) 0=f12 N m c id j:=by
      unfold f12 fU
      split
      . rfl
      . rfl
     rw[this]at hv;exact hv
    show ay _ _ _ (ab ((m.aa.set c.toNat (m.aa.getD c.toNat []++[id])).getD j []))
    unfold f12 fU at hv
    by_cases U:j=c.toNat
    . subst U
      rw[x9 rfl]at hv
      rw[x7 (l:=m.aa.set _ _),List.getElem?_set_self R]
      exact hv
    . rw[x8 U,x8 U]at hv
      rw[x7 (l:=m.aa.set _ _),List.getElem?_set_ne (Ne.symm U),<- x7]
      exact zv0 hv
   have h3:=adn (l:=[(8, .ptr 8 []),(6, .ptr 6 [])]) h2 λs x hs=>by
    rcases zjw hs with⟨rfl,rfl⟩ | ⟨rfl,rfl⟩<;>rfl
   have el:HQ (oc m c id)=HQ m:=by unfold HQ acb oc;simp only[wc]
   unfold S8
   rw[el]
   exact h3⟩
  rw[x9 (by rw[Region.wanted];rfl)]at this
  exact this
theorem aid (R:kW m) (u:0<=c) (Q:c.toNat<m.aa.length) (M:(m.aa.getD c.toNat []).length<=1000000) (r:aU .i64 id) (y:∀ k,N k ->¬ F0 k) (U:∀ k,¬ W0.L k) (W:∀ b,W0.A b=none) (V:∀ g x,AV.get (GN N) g=some x ->ay W0.w F0 (.pointer (some ⟨g,0,none⟩)) x) (E:∀ k,F0 k ->k<W0.w.heap.size)
 (J:Rel (lr N m 45) W0 F0 (S7 N m c id) a w F φ):(Code.region 8 iE true).wp Tryz.prog (λe X K=>e= .normal/\∃ F φ,Rel (lr N m 45) W0 F0 (S8 (oc m c id)) X K F φ) a w:=by
 refine zux (I8 N m c id W0 F0) am ⟨λk o f=>(by cases f), ?_⟩ (λD i o a w O H s z=>ao1 R u Q M r y U W V E O H s z) λD a w j z=>⟨rfl, ?_⟩
 . exact⟨_,F,φ,J.grown ⟨rfl,rfl,rfl,xm _,λ_ _=>rfl⟩ (λ_ f=>f) (λ_ f=> .inl f) J.ro,λ_ _ h=>h,λi x h=>by cases h⟩
 . have h:=z.2
   rw[j 12 (by rw[sz8];decide)]at h
   exact h
end
theorem eqB:Tryz.f156.body=some zR:=am
theorem aog:Bp:=λm c id hm=> .inl ⟨iJ.of (fn:=Tryz.f156) Tryz.func156 am am,λw F vs hro hgl hsz hr=>by
 obtain⟨N,hN⟩:∃ N:Nat ->Prop,N=λk=>¬ F k:=⟨_,rfl⟩
 have hglN:∀ g x,AV.get (GN N) g=some x ->ay w F (.pointer (some ⟨g,0,none⟩)) x:=λg x hg=>by
  simp only[GN,AV.get]at hg
  split at hg
  . cases hg;exact .lh _ _ rfl λk=>by rw[hN];exact Classical.em (F k)
  . exact hgl g x hg
 have hid:aU .i64 id:=(zbj (hr 2 (show 2<3 by decide))).2
 have hR:=Rel.start (C:=lr N m 45) (fn:=Tryz.f156) (args:=[vM m,co c,co id]) am (show 3<=45 by decide) hro hglN hsz hr
 have s3:=hm.aa
 have fin:∀ {a':Act} {w':World} {F':Nat ->Prop} {φ':Nat ->AV.Place},Rel (lr N m 45) (.of w) F (SR m c id) a' w' F' φ' ->bodyPost Tryz.prog Tryz.f156 (λen w'=>∃ v F',en= .returned v/\Below w.heap.size w w'/\(∀ k,F k ->F' k)/\(∀ k,F' k ->F k∨w.heap.size<=k)/\(∀ k,F' k ->k<w'.heap.size)/\dU w' F' v (.ax [vM (b9 m c id).1,co (b9 m c id).2])) .ret a' w':=λhR=>⟨hR.cW,zkg (V:=vEr N m c id 45 λ_=>[]) (fn:=Tryz.f156) (r:= .ax [vM (b9 m c id).1,co (b9 m c id).2]) (NL N m 45) hR (by
  have e:(match znt (lr N m 45) (SR m c id) Tryz.f156.results.toList with |some (x,ps)=>kv ps (AV.kJ [] [] x (.ax [vM (b9 m c id).1, .int .i64 (b9 m c id).2])).P |none=>False)=(AV.kJ [] [] (.ax [vM (b9 m c id).1, .int .i64 (b9 m c id).2]) (.ax [vM (b9 m c id).1, .int .i64 (b9 m c id).2])).P:=am
  exact Eq.mpr e (le_refl _ _ _))⟩
 refine calls_of_wp Tryz.func156 eqB (zs9 (V:=vEr N m c id 45 λ_=>[]) (NL N m 45) ccE (λ_=>rfl) 4 zR ⟨z87 0 [vM m,co c,co id],[]⟩ (pW (some (cx m=true/\bM m c m.aa.length=0/\¬ id<0,S7 N m c id)) none (some (True,SR m c id))) _ _ _ _ (alm N m c id hm) hR ?_)
 rintro e st' a' w' F' φ' h1 h2
 cases e with
 |normal=>
  have⟨⟨hfm,hins,hlt⟩,hle⟩:=h2
  have⟨φ2,hR2⟩:=h1.weaken hle
  have hc:=ma hins
  have hq:=hm.q c.toNat
  show(B8 4 zR).wp Tryz.prog _ a' w'
  rw[alg]
  refine wp_seq (wp_mono (aid (yT.1 hfm) ac ac ac hid (λk hk=>by rw[hN]at hk;exact hk) (λ_ h=>h) (λ_=>rfl) hglN hro hR2) ?_)
  rintro e a3 w3 ⟨rfl,F3,φ3,hR3⟩
  refine wp_mono (z98 (V:=vEr N m c id 45 fzR) (NL N m 45) ccE (B8 5 zR) (S8 (oc m c id)) (pW none none (some (True,SR m c id))) _ _ _ _ (alr N m c id hm hfm hins hlt) hR3) ?_
  rintro e a4 w4 ⟨st4,F4,φ4,hR4,hq4⟩
  cases e with
  |ret=>
   have⟨φ5,hR5⟩:=hR4.weaken hq4.2
   exact fin hR5
  |_=>exact hq4.elim
 |ret=>
  have⟨φ2,hR2⟩:=h1.weaken h2.2
  exact fin hR2
 |_=>exact h2.elim⟩
end Go.Proofs.S25
