import Derived.Test.YtgcpdfihjmmggaaGreatDoorXzg
namespace Go.Proofs.S25
open Go Go.AV
open Go.IntKind renaming i64 -> j6
open Go.AV.Shape (leaf)
noncomputable section
variable {p:ai} {b:Int} {s:ag} {l:List Int} {t:ag} {a:Int} {k:Nat} {r:Int}
theorem Cg {t:aB} {s e:Int} (h:fy p b t):fy p b (cT t s e):=⟨h.id,h.fn,h.pc,h.aw,h.steps,h.kids,h.deep,h.mO,h.held,h.ph⟩
theorem ang {t:aB} (F:fy p b t) (hs:t.status=2) (hf:t.fault=0) (h0:t.phase=0) (h:dv p t=false∨(aD p t).op=7):cG p b t=true:=by
 unfold cG lM
 rw[TG.2 F,x8 (by omega),x9 hs,hf,h0]
 rcases h with h |h<;>simp[h]
theorem amw {t:aB} (F:fy p b t) (hs:t.status=3) (h:r6 p t=true):cG p b t=true:=by
 unfold cG
 rw[TG.2 F,x8 (by omega),x8 (by omega),x9 hs,h];rfl
theorem ana {t:aB} (F:fy p b t) (hs:t.status=1∨t.status=4) (h:kN p b t=true):cG p b t=true:=by
 unfold cG
 rw[TG.2 F,x9 hs,h];rfl
theorem aoh {t:aB} {i:aK} (h:bS t i≠0):t.phase=0/\(bS t i=27∨bS t i=28):=by
 unfold bS at h ⊢
 split at h
 . exact absurd rfl h
 . rename_i h0
   rw[x8 h0]
   refine⟨by omega, ?_⟩
   split at h
   . rename_i h1
     rw[x9 h1]
     split at h
     . split at h
       . exact absurd rfl h
       . rename_i h2 h3
         rw[x9 h2]at *
         simp[h3]
     . split at h
       . exact absurd rfl h
       . rename_i h2 h3
         simp[h2,h3]
   . rename_i h1
     rw[x8 h1]
     split at h
     . rename_i h2
       rw[x9 h2]
       split at h
       . exact absurd rfl h
       . rename_i h3;simp[h3]
     . exact absurd rfl h
theorem anf {t:aB} (F:fy p b t) (hb:1<=b) (hs:t.status=1) (hf:t.fault=0) (ha:dv p t=true) (hv:cM (aD p t).op=true):cG p b (oc b t (aD p t))=true:=by
 unfold oc
 split
 . rename_i ho
   obtain⟨o1,o2⟩:=aoh ho
   refine amw (Cg F) rfl ?_
   unfold r6
   show(t.phase==0&&(dv p t&&(if bS t (aD p t)=26 then _ else if bS t (aD p t)=29 then _ else bS t (aD p t) !=0&&bS t (aD p t)==bS t (aD p t))))=true
   rw[x8 (by omega),x8 (by omega),o1,ha]
   simp[ho]
 . rename_i ho
   have ho:bS t (aD p t)=0:=ye.1 ho
   split
   . rename_i hb'
     refine ana (Cg F) (.inr rfl) ?_
     unfold kN
     show((0:Int)==0&&(dv p t&&(cM (aD p t).op&&(bS t (aD p t)==0&&(((4:Int)==1&&decide (t.steps<b)) || ((4:Int)==4&&decide (1<=t.steps)))))))=true
     rw[ha,hv,ho,hb']
     simp[hb]
   . rename_i hb'
     refine ana F (.inl hs) ?_
     unfold kN
     have :=F.steps
     have :t.steps<b:=by omega
     rw[ha,hv,ho,hf,hs]
     simp[this]
theorem ans {t:aB} (F:fy p b t) (a:Nat): -2147483648<=t.aw.getD a 0/\t.aw.getD a 0<=2147483647:=by
 by_cases h:a<t.aw.length
 . exact F.aw _ (oI h)
 . rw[x7,y9 (by omega)];decide
theorem am2 (h:∀ r∈l,-2147483648<=r/\r<=2147483647) (a:Int) {v:Int} (hv: -2147483648<=v/\v<=2147483647):∀ r∈jD l a v,-2147483648<=r/\r<=2147483647:=λr hr=>by
 rcases List.mem_or_eq_of_mem_set hr with h1 |h1
 . exact h r h1
 . rw[h1];exact hv
theorem lT {t:aB} (F:fy p b t) (h0:t.phase=0) {l:List Int} {n:Int} (hl:∀ r∈l,-2147483648<=r/\r<=2147483647) (hn:0<=n/\n<=((p.al.getD t.fn.toNat bL).code.length:Int)):fy p b {t with aw:=l,pc:=n}:=
 ⟨F.id,F.fn,hn,hl,F.steps,F.kids,F.deep,F.mO,F.held, .inl h0⟩
theorem ao2 {t:aB} (hp:jM p) (W:jJ p t) (F:fy p b t) (h0:t.phase=0) (hs:t.status=1) (hf:t.fault=0) (ha:dv p t=true) (hv:cM (aD p t).op=false):
 ((aO t (aD p t)).2=true/\fy p b (aO t (aD p t)).1/\(aO t (aD p t)).1.phase=0/\(aO t (aD p t)).1.status=1/\(aO t (aD p t)).1.fault=0)∨((aO t (aD p t)).2=false/\cG p b (aO t (aD p t)).1=true):=by
 have hc:=vi hp W ha
 obtain⟨c1,c2,c3⟩:=vO hc
 have hpc:=(VG W ha).1
 have h4:=F.pc
 have nx:0<=t.pc+1/\t.pc+1<=((p.al.getD t.fn.toNat bL).code.length:Int):=by omega
 unfold aO
 split
 . rename_i h;exact .inl ⟨rfl,lT F h0 (am2 F.aw _ ((zj1 c1).2.2.1 h)) nx,h0,hs,hf⟩
 split
 . exact .inl ⟨rfl,lT F h0 (am2 F.aw _ (ans F _)) nx,h0,hs,hf⟩
 split
 . split
   . exact .inl ⟨rfl,lT F h0 (am2 F.aw _ (aoa _ _ _)) nx,h0,hs,hf⟩
   . exact .inl ⟨rfl,lT F h0 F.aw nx,h0,hs,hf⟩
 split
 . rename_i h
   refine .inl ⟨rfl,lT F h0 F.aw ?_,h0,hs,hf⟩
   split
   . exact nx
   . exact c3 (.inr h)
 split
 . rename_i h;exact .inl ⟨rfl,lT F h0 F.aw (c3 (.inl h)),h0,hs,hf⟩
 split
 . rename_i h
   split
   . rename_i hr
     refine .inr ⟨rfl,amw (Cg F) rfl ?_⟩
     unfold r6
     show(t.phase==0&&(dv p t&&(if(26:Int)=26 then(aD p t).op==6&&dy t (aD p t).b==0 else _)))=true
     rw[x9 rfl,h0,ha,h,hr];rfl
   . exact .inl ⟨rfl,lT F h0 F.aw nx,h0,hs,hf⟩
 split
 . rename_i h
   exact .inr ⟨rfl,ang (Cg F) rfl rfl h0 (.inr h)⟩
 . exact .inl ⟨rfl,lT F h0 F.aw nx,h0,hs,hf⟩
theorem ant (hp:jM p) (hb:1<=b):∀ (k:Nat) (t:aB),jJ p t ->fy p b t ->t.status=1 ->t.fault=0 ->cG p b (jw p b k t)=true:=by
 have one:∀ (t:aB),fy p b t ->dv p t=false ->cG p b (cT t 2 0)=true:=λt F ha=>by
  refine ang (Cg F) rfl rfl ?_ (.inl ha)
  rcases F.ph with h |h
  . exact h
  . rw[ha]at h;exact absurd h.2.1 (by decide)
 have ph:∀ (t:aB),fy p b t ->cM (aD p t).op=false ->t.phase=0:=λt F hv=>by
  rcases F.ph with h |h
  . exact h
  . rw[h.2.2.1]at hv;exact absurd hv (by decide)
 intro k
 induction k with
 |zero=>
  intro t W F hs hf
  cases ha:dv p t with
  |false=>rw[z164 ha];exact one t F ha
  |true=>
   cases hv:cM (aD p t).op with
   |true=>rw[VD ha hv];exact anf F hb hs hf ha hv
   |false=>
    rw[s_0 ha hv]
    refine amw (Cg F) rfl ?_
    unfold r6
    show(t.phase==0&&(dv p t&&(if(29:Int)=26 then _ else if(29:Int)=29 then !cM (aD p t).op else _)))=true
    rw[x8 (by decide),x9 rfl,ph t F hv,ha,hv];rfl
 |succ k ih=>
  intro t W F hs hf
  cases ha:dv p t with
  |false=>rw[z164 ha];exact one t F ha
  |true=>
   cases hv:cM (aD p t).op with
   |true=>rw[VD ha hv];exact anf F hb hs hf ha hv
   |false=>
    rw[s_s ha hv]
    rcases ao2 hp W F (ph t F hv) hs hf ha hv with⟨e,f1,f2,f3,f4⟩ | ⟨e,f1⟩
    . rw[x9 e];exact ih _ (zpl hp W ha) f1 f3 f4
    . rw[x8 (by rw[e];simp)];exact f1
theorem ank {t:aB} (F:fy p b t) (i:aK) {r:Int} (hr:wr r=r):∀ x∈(wrote t i r).aw,-2147483648<=x/\x<=2147483647:=by
 unfold wrote
 dsimp only
 split
 . exact am2 F.aw _ (oa.1 hr)
 . exact F.aw
theorem ao9 {t:aB} {r:Int} (hp:jM p) (ht:dU t) (h:cG p b t=true) (hs:t.status=1) (hr:wr r=r):fy p b (c4 t (aD p t) r):=by
 have F:=oo h
 have W:=F.wf ht
 obtain⟨_,ha,hv,ho,hst⟩:=sZ h hs
 have hc:=vi hp W ha
 obtain⟨c1,c2,_⟩:=vO hc
 have hpc:=(VG W ha).1
 have h4:=F.pc
 have h5:=F.steps
 have R:=ank F (aD p t) hr
 have nx:0<=t.pc+1/\t.pc+1<=((p.al.getD t.fn.toNat bL).code.length:Int):=by omega
 have st:0<=t.steps+1/\t.steps+1<=b:=by omega
 have p0:(aD p t).op≠18 ->t.phase=0:=λh=>by
  rcases F.ph with q |q
  . exact q
  . exact absurd q.2.2.1 h
 have aH:∀ (l:List Int) (v:Int),(0<=v/\v<p.aP.length) ->(∀ m∈l,0<=m/\m<(p.aP.length:Int)) ->jC l ->∀ m∈c9 l v,0<=m/\m<(p.aP.length:Int):=λl v hv hl hr m hm=>by
  rcases(zth hr v m).1 hm with q |q
  . exact hl m q
  . rw[q];exact hv
 have rH:∀ (l:List Int) (v:Int),(∀ m∈l,0<=m/\m<(p.aP.length:Int)) ->∀ m∈cU l v,0<=m/\m<(p.aP.length:Int):=λl v hl m hm=>hl m (ac3.1 hm).1
 have c18:(aD p t).op=18 ->0<=(aD p t).n/\(aD p t).n<p.aP.length:=λh=>by
  unfold ky at c2
  simp only[h,beq_self_eq_true,wc,xg,xh]at c2
  omega
 have c15:((aD p t).op=15∨(aD p t).op=16∨(aD p t).op=17) ->0<=(aD p t).obj/\(aD p t).obj<p.aP.length:=λh=>by
  have e:jI p (aD p t).op=p.aP.length:=by unfold jI;rw[x8 (by omega),x9 h]
  unfold ky at c2
  rw[e]at c2
  simp only[xg,xy,xh]at c2
  omega
 unfold c4
 split
 . rename_i h18
   have n1:=c18 h18
   unfold jk
   split
   . exact⟨F.id,F.fn,F.pc,R,st,F.kids,F.deep,ahz _ _,rH _ _ F.held, .inr ⟨.inl rfl,ha,h18,λq=>(ac3.1 q).2 rfl⟩⟩
   . rename_i q0
     have q0:t.phase≠0:=q0
     have q1:(aD p t).n∉t.held:=by
      rcases F.ph with q |q
      . exact absurd q q0
      . exact q.2.2.2
     split
     . exact⟨F.id,F.fn,F.pc,R,st,F.kids,F.deep,F.mO,F.held, .inr ⟨.inr rfl,ha,h18,q1⟩⟩
     . exact⟨F.id,F.fn,nx,R,st,F.kids,F.deep,aiw _ _,aH _ _ n1 F.held F.mO, .inl rfl⟩
 . rename_i h18
   have z:=p0 h18
   split
   . rename_i q
     exact⟨F.id,F.fn,nx,R,st,F.kids,F.deep,aiw _ _,aH _ _ (c15 (by omega)) F.held F.mO, .inl z⟩
   . split
     . exact⟨F.id,F.fn,nx,R,st,F.kids,F.deep,ahz _ _,rH _ _ F.held, .inl z⟩
     . split
       . rename_i h21
         have hb:cA t=true:=by
          unfold bS at ho
          rw[x8 (by omega),x8 (by omega),x9 h21]at ho
          cases hx:cA t with
          |true=>rfl
          |false=>rw[hx]at ho;exact absurd ho (by decide)
         unfold cA at hb
         simp only[xi,xg,xh,xp]at hb
         have hk:=F.kids
         exact⟨F.id,F.fn,nx,R,st,by show 0<=t.kids+1/\t.kids+1<=7;omega,λq=>absurd q hb.1.1.2,F.mO,F.held, .inl z⟩
       . exact⟨F.id,F.fn,nx,R,st,F.kids,F.deep,F.mO,F.held, .inl z⟩
theorem anu {t:aB} {r:Int} (hp:bI p) (ht:dU t) (h:fq p b t=true) (hs:t.status=1) (hr:wr r=r):fq p b (cd p b t r).1=true/\(cd p b t r).2=0/\(cd p b t r).1=b7 p b (c4 t (aD p t) r):=by
 obtain⟨a,c⟩:=mD.1 h
 obtain⟨o1,o2,_⟩:=l6 a
 have hp:jM p:=⟨hp,o1⟩
 have e:cd p b t r=(b7 p b (c4 t (aD p t) r),0):=by
  unfold cd
  rw[x8 (by simp[a]),x8 (by simp[c]),x8 (by simp[hs]),x8 (by simp[hr])]
 rw[e]
 have q:=Y2 t (aD p t) r
 refine⟨mD.2 ⟨a,ant hp o2 256 _ (zj7 hp ht c hs r) (ao9 hp ht c hs hr) (by rw[q.2.2.2.2.2.1];exact hs) (by rw[q.2.2.1];exact(sZ c hs).1)⟩,rfl,rfl⟩
theorem ao5 {t:aB} {r:Int} (h:fq p b t=true) (hs:t.status=1) (hr:wr r=r):(cd p b t r).1.id=t.id/\(cd p b t r).1.steps=t.steps+1:=by
 obtain⟨a,c⟩:=mD.1 h
 have e:cd p b t r=(b7 p b (c4 t (aD p t) r),0):=by
  unfold cd
  rw[x8 (by simp[a]),x8 (by simp[c]),x8 (by simp[hs]),x8 (by simp[hr])]
 rw[e]
 have q:=Y2 t (aD p t) r
 have st:∀ (k:Nat) (t:aB),(jw p b k t).steps=t.steps:=λk=>by
  have lo:∀ (t:aB) (i:aK),(aO t i).1.steps=t.steps:=λt i=>by
   unfold aO;repeat' split
   all_goals rfl
  have vs:∀ (t:aB) (i:aK),(oc b t i).steps=t.steps:=λt i=>by
   unfold oc;repeat' split
   all_goals rfl
  induction k with
  |zero=>intro t;unfold jw;repeat' split
         all_goals first |rfl |exact vs _ _
  |succ k ih=>intro t;unfold jw;repeat' split
              all_goals first |rfl |exact vs _ _ |exact(ih _).trans (lo _ _) |exact lo _ _
 exact⟨(zbh p b 256 _).trans q.1,(st 256 _).trans q.2.2.2.2.1⟩
def j8 (p:ai) (b:Int) (l:List Int):Nat ->ag×ag
 |0=>((zj p b).1,(zp p b).1)
 |i+1=>((da p b (j8 p b l i).1 (l.getD i 0)).1,
  if(da p b (j8 p b l i).1 (l.getD i 0)).2.1.kind=2 then(zt p b (zt p b (j8 p b l i).2 (l.getD i 0)).1 (-1 - l.getD i 0)).1 else(zt p b (j8 p b l i).2 (l.getD i 0)).1)
def sqF (p:ai) (b:Int) (l:List Int):Nat ->Nat ->Nat
 |0,i=>i
 |k+1,i=>if(da p b (j8 p b l i).1 (l.getD i 0)).2.2≠0 then i else sqF p b l k (i+1)
def sqE (p:ai) (b:Int) (l:List Int):Nat:=sqF p b l (lJ l) 0
def oTq (p:ai) (b:Int):FuncId ->List AV ->Option AV
 |9,_=>some (.bool (kn p))
 |11,_=>some (.bool true)
 |19,_=>some (.av [cx (zj p b).1, .int .i64 (zj p b).2])
 |12,_=>some (.av [cx (zp p b).1, .int .i64 (zp p b).2])
 |20,[_,_, .mc _ s, .int _ a]=>some (.av [cx (da p b (eu s) a).1,dh (da p b (eu s) a).2.1, .int .i64 (da p b (eu s) a).2.2])
 |21,[_,_, .mc _ s, .int _ a]=>some (.av [cx (zt p b (eu s) a).1,dh (zt p b (eu s) a).2.1, .int .i64 (zt p b (eu s) a).2.2])
 |15,_=>some (.bool true)
 |14,_=>some (.bool true)
 |_,_=>none
noncomputable def vTq (p:ai) (b:Int) (n:Nat) (I:Nat ->Option Inv):bm:={C:=di n λ_ _=>false,CC:=bO Tryz.prog GG,b9:=λ_ _=>oTq p b,inv:=I}
def ann (p:ai) (b:Int) (l:List Int) (k:Nat):Option Inv:=match Nat.beq k 8 with
 |true=>some {ι:=Nat,S:=λi=>⟨[(1, .int .i64 b),(2,a8 l),(3, .ptr 3 []),(7, .ptr 7 []),(9, .ptr 9 []),(11, .int .i64 i)],[(3,iM p),(7,fb (j8 p b l i).1),(9,fb (j8 p b l i).2)]⟩,μ:=λi=>l.length - i,ok:=λi=>i<=lJ l/\sqF p b l (lJ l - i) i=sqE p b l}
 |false=>none
theorem an5 (p:ai) (b:Int) (l:List Int) (i:Nat):(j8 p b l (i+1)).2=if(da p b (j8 p b l i).1 (l.getD i 0)).2.1.kind=2 then(zt p b (zt p b (j8 p b l i).2 (l.getD i 0)).1 (-1 - l.getD i 0)).1 else(zt p b (j8 p b l i).2 (l.getD i 0)).1:=rfl
def ov (p:ai) (b:Int) (l:List Int) (j:Nat):Prop:=(da p b (j8 p b l j).1 (l.getD j 0)).2.2=0
theorem an9 (p:ai) (b:Int) (l:List Int):∀ k i,i<=sqF p b l k i
 |0,i=>xm _
 |k+1,i=>by
  unfold sqF
  split
  . exact xm _
  . have :=an9 p b l k (i+1);omega
theorem anh {p:ai} {b:Int} {l:List Int}:∀ k i,(∀ j,j<i ->ov p b l j) ->∀ j,j<sqF p b l k i ->ov p b l j
 |0,i,h,j,hj=>h j hj
 |k+1,i,h,j,hj=>by
  unfold sqF at hj
  split at hj
  . exact h j hj
  . rename_i hz
    refine anh k (i+1) (λj hj=>?_) j hj
    by_cases e:j=i
    . subst e;exact we λh=>hz h
    . exact h j (by omega)
structure am4 (p:ai) (b:Int) (l:List Int):Prop where
 ok:∀ i,i<=200 ->(∀ j,j<i ->ov p b l j) ->ov p b l i ->(zt p b (j8 p b l i).2 (l.getD i 0)).2.2=0/\((da p b (j8 p b l i).1 (l.getD i 0)).2.1.kind=2 ->(zt p b (zt p b (j8 p b l i).2 (l.getD i 0)).1 (-1 - l.getD i 0)).2.2=0)
 fin:∀ i,i<=200 ->(∀ j,j<i ->ov p b l j) ->(j8 p b l i).1=bN (j8 p b l i).2/\ib (j8 p b l i).2.ae=true
theorem alw {p:ai} {b:Int} {l:List Int} {n:Nat} (hp:bI p) (h0:mz (zp p b).1 0 n) (hn:n<=399000):∀ i,i<=200 ->mz (j8 p b l i).2 (i+i) (n+(i+i))
 |0,_=>h0
 |i+1,hi=>by
  have w:=zza (b:=b) (a:=l.getD i 0) hp (alw (l:=l) hp h0 hn i (by omega)) (by omega) (by omega)
  show mz (if _ then _ else _) _ _
  split
  . exact zma (zza (n:=n+(i+i)+1) hp w (by omega) (by omega)) (by omega) (by omega)
  . exact zma w (by omega) (by omega)
section
variable (p:ai) (b:Int)
def amj:List AV:=[AV.mc z7 (ah p),AV.int j6 b]
def ame:=(zj p b).snd !=0
def amp:=(!ame p b)=true
def amu:=amp p b->amp p b
def amb:=ame p b||(zp p b).snd !=0
variable (l:List Int) (x3:Nat)
def alq:=x3<=lJ l/\sqF p b l (lJ l - x3) x3=sqE p b l
variable (x1:Nat)
def amc:List AV:=[AV.int j6 (og l x1)]
def amn:ag×Ev×Int:=da p b (eu (ze (j8 p b l x3).fst)) (og l x3)
def amk:=ze (amn p b l x3).fst
def am9:Ev×Int:=(amn p b l x3).snd
def an1:Ev:=(am9 p b l x3).fst
def amg:Int:=(am9 p b l x3).snd
def am8:=KN 11 [] (AV.bool true)/\(RR true->RR true)/\(RR true->KN 15 [AV.mc aI (ze (j8 p b l x3).snd)] (AV.bool true))/\(RR true->RR true)/\((true&&true)=true->(true&&true)=true)/\((true&&true)=true->(true&&true)=true)/\((true&&true)=true->(true&&true)=true)/\((true&&true)=true->(true&&true)=true)/\((true&&true)=true->(true&&true)=true)/\((true&&true)=true->(true&&true)=true)/\((true&&true)=true->KN 14 [AV.mc aI (ze (j8 p b l x3).fst),AV.mc (Shape.agg [leaf,zm,leaf]) (AV.agg [aF (j8 p b l x3).snd.ab,aj (j8 p b l x3).snd.mem,AV.ax])] (AV.bool true))/\((true&&true)=true->(true&&true)=true)/\(true&&true&&true)=true
def amo:=amg p b l x3 !=0
def amv:ag×Ev×Int:=zt p b (eu (ze (j8 p b l x3).snd)) (og l x3)
def aly:=ze (amv p b l x3).fst
def am7:=AV.mc aI (aly p b l x3)
def ama:Ev×Int:=(amv p b l x3).snd
def amz:Int:=(ama p b l x3).snd
def amf:=amz p b l x3 !=0
def am1:Int:=-1 - og l x1
def ami:ag×Ev×Int:=zt p b (eu (aly p b l x3)) (am1 l x3)
def an2:=ze (ami p b l x3).fst
def amq:Ev×Int:=(ami p b l x3).snd
def amd:Int:=(amq p b l x3).snd
def am5:=amd p b l x3 !=0
end
section
variable (b:Int) (l:List Int) (x2:Nat) (x3:Nat)
def an3:=RR b/\UE l/\q9 x2=↑x3
end
section
variable (p:ai) (b:Int) (l:List Int) (x3:Nat) (x4:Nat)
def amy:=LS (amk p b l x3) (ze (j8 p b l x4).fst)
def amx:=(an1 p b l x3).kind==2
variable (x1:Nat)
def amr:=qe l x1&&decide (↑x1<(200:Int))
end
theorem anq (p:ai) (b:Int) (l:List Int) (hp:alx p) (hn:NmP p) (hE:lz) (hR:wK) (hL:bI p ->mz (zp p b).1 0 399000 ->am4 p b l) (hl:l.length<=140737488355328) (hI:∀ i,jY (l.getD i 0)):KN 6 [vP p, .int .i64 b,a8 l] (.bool true):=by
 refine Kn (vTq p b 119 (ann p b l)) Tryz.func6 (KN 9 [AV.mc z7 (ah p)] (AV.bool (kn p))/\((!kn p)=true->KN 11 [] (AV.bool true)/\RR true)/\((!kn p)=false->KN 19 (amj p b) (AV.av [AV.mc aI (ze (zj p b).fst),AV.int j6 (zj p b).snd])/\KN 12 (amj p b) (AV.av [AV.mc aI (ze (zp p b).fst),AV.int j6 (zp p b).snd])/\amu p b/\amu p b/\(amb p b=true->KN 11 [] (AV.bool true)/\(RR true->RR true)/\(RR true->RR true)/\(RR true->RR true)/\(true&&(zj p b).snd==(zp p b).snd)=true)/\(amb p b=false->(∃ i,alq p b l i/\(RR b/\UE l/\(0:Int)=↑i)/\LS (ah p) (ah p)/\LS (ze (zj p b).fst) (ze (j8 p b l i).fst)/\LS (ze (zp p b).fst) (ze (j8 p b l i).snd))/\∀ i:Nat,alq p b l i->↑l.length<=(9223372036854775807:Int)/\sx l i/\sx l i/\(amr l i=true->af (↑i) l.length/\KN 20 (AV.mc z7 (ah p)::AV.int j6 b::AV.mc aI (ze (j8 p b l i).fst)::amc l i) (AV.av [AV.mc aI (amk p b l i),AV.mc bF (bX (an1 p b l i)),AV.int j6 (amg p b l i)])/\(amo p b l i=true->am8 p b l i)/\(amo p b l i=false->af (↑i) l.length/\KN 21 (AV.mc z7 (ah p)::AV.int j6 b::AV.mc aI (ze (j8 p b l i).snd)::amc l i) (AV.av [am7 p b l i,AV.mc bF (bX (ama p b l i).fst),AV.int j6 (amz p b l i)])/\(amf p b l i=true->false=true)/\(amf p b l i=false->(amx p b l i=true->af (↑i) l.length/\aM j6 (am1 l i)/\KN 21 [AV.mc z7 (ah p),AV.int j6 b,am7 p b l i,AV.int j6 (am1 l i)] (AV.av [AV.mc aI (an2 p b l i),AV.mc bF (bX (amq p b l i).fst),AV.int j6 (amd p b l i)])/\(am5 p b l i=true->false=true)/\(am5 p b l i=false->qa i/\(∃ j,alq p b l j/\nu l i j/\an3 b l i j/\LS (ah p) (ah p)/\amy p b l i j/\LS (an2 p b l i) (ze (j8 p b l j).snd))))/\(amx p b l i=false->qa i/\(∃ j,alq p b l j/\nu l i j/\an3 b l i j/\LS (ah p) (ah p)/\amy p b l i j/\LS (aly p b l i) (ze (j8 p b l j).snd))))))/\(amr l i=false->am8 p b l i)))) ?_
 try delta amj ame amp amu amb alq UE qe yF sx og amc amn amk am9 an1 amg am8 amo amv aly am7 ama amz amf am1 ami an2 amq amd am5 q9 qa nu an3 amy amx amr
 simp only[SB,af,reduceCtorEq]
 refine⟨agn p hp,λ_=>zqy,λhf=>?_⟩
 have hP:=acx hf hn
 have ht:p.ab.length<=1000:=by
  unfold kn at hf
  rw[xa,xd,xd]at hf
  have :=hf.2
  unfold iA at this
  omega
 have w0:=ace (b:=b) hP ht
 have M:lJ l<=200/\lJ l<=l.length:=by unfold lJ;omega
 refine⟨afp p b hP,YT p b hP,λh=>⟨zqy, ?_⟩,λh=>⟨⟨0,⟨xt _,rfl⟩,rfl,fp rfl,fp rfl,fp rfl⟩,λi hi=>?_⟩⟩
 . unfold zp zj;split<;>rfl
 have hr:=an9 p b l (lJ l - i) i
 rw[hi.2]at hr
 have run:∀ j,j<i ->ov p b l j:=λj hj=>anh (lJ l) 0 (λj hj=>absurd hj (jo j)) j (show j<sqE p b l by omega)
 have w:=alw (l:=l) hP w0 (xm _) i (by omega)
 have hL:=hL hP w0
 obtain⟨f1,f2⟩:=hL.fin i (by omega) run
 have hT:=w.sm
 have wa:=w.all
 have wt:=w.ab
 have hS:cw (j8 p b l i).1:=by rw[f1];exact hT.sc
 have ea:(allI (j8 p b l i).1.mem).length<=399400:=by rw[f1];show(allI (j8 p b l i).2.mem).length<=_;omega
 have et:(j8 p b l i).1.ab.length<=399400:=by rw[f1];show(j8 p b l i).2.ab.length<=_;omega
 simp only[fQ hS.r8,fQ hT.r8]
 have eq:KN 14 [cx (j8 p b l i).1,fi (j8 p b l i).2] (.bool true):=by
  have :=ah8 (j8 p b l i).1 (bN (j8 p b l i).2) hS hT.sc
  rw[wy f1]at this
  exact this.weaken (args':=[cx (j8 p b l i).1,fi (j8 p b l i).2]) rfl ⟨zo1,⟨rfl,zo1,zo1,rfl,trivial⟩,trivial⟩
 have dr:KN 15 [cx (j8 p b l i).2] (.bool true):=by
  have :=adv (j8 p b l i).2 hT.ae λj=>by have :=hT.cf j;omega
  rwa [f2]at this
 have cl:=λ(s:ag) (i n:Nat) (a:Int) (w:mz s i n) (hn:n<400000) (ha:jY a)=>zqu p b s a hP w.sm ha (by have :=w.ab;omega) λ_ _ _ _ _ _=>abb p b s _ a hP w.sm hE (by have :=w.all;omega) (by have :=w.ab;omega)
 have w1:=zza (b:=b) (a:=l.getD i 0) hP w (by omega) (by omega)
 simp only[fQ w1.sm.r8]
 have e2:=hL.ok i (by omega) run
 have nx:(da p b (j8 p b l i).1 (l.getD i 0)).2.2=0 ->i<l.length ->i<200 ->i+1<=lJ l/\sqF p b l (lJ l - (i+1)) (i+1)=sqE p b l:=λh0 h1 h2=>by
  have hm:∃ k,lJ l - i=k+1:=⟨lJ l - i - 1,by unfold lJ;omega⟩
  obtain⟨k,hk⟩:=hm
  have e:=hi.2
  rw[hk]at e
  unfold sqF at e
  rw[x8 (by rw[h0];exact λh=>h rfl)]at e
  exact⟨by unfold lJ;omega,by rw[show lJ l - (i+1)=k from by omega];exact e⟩
 have hi1:=(hI i).1
 have hi2:=(hI i).2
 have hI':jY (-1 - l.getD i 0):=⟨by omega,by omega⟩
 refine⟨by omega,λhlt=>⟨hlt.1,af5 p b _ _ hP hS hR (by omega),λ_=>⟨zqy,λ_=>dr,λ_=>eq⟩,λh0=>⟨hlt.1,cl _ _ _ _ w (by omega) (hI i),λh=>h (e2 h0).1,λ_=>⟨λhk=>⟨hlt.1,za (by have :=hI'.1;omega) (by have :=hI'.2;omega),cl _ _ _ _ w1 (by omega) hI',λh=>h ((e2 h0).2 hk),λ_=>⟨za (by omega) (by omega),i+1,nx h0 hlt.1 (by omega),by omega,by omega,fp rfl,fp rfl,fp ?_⟩⟩,λhk=>⟨za (by omega) (by omega),i+1,nx h0 hlt.1 (by omega),by omega,by omega,fp rfl,fp rfl,fp ?_⟩⟩⟩⟩,λ_=>⟨zqy,λ_=>dr,λ_=>eq⟩⟩
 . rw[an5,x9 hk]
 . rw[an5,x8 hk]
def l0 (p:ai) (b:Int) (s:ag) (a:Int):ag×Int:=if(bP p s a).kind=16 then eH p b {s with mem:=(cW p s a).1} (bP p s a).obj (c5 p s a).obj (bp (cl p s a) (c5 p s a).b)else({s with mem:=(cW p s a).1},0)
theorem anr (h0:(da p b s a).2.2=0):
 aV p b=0/\bT p b s=true/\(bg p s a).2.2=true/\z20 s (cl p s a) (c5 p s a)=true/\(cW p s a).2.2=0/\(l0 p b s a).2=0/\(gY p b s a).2=0/\
  da p b s a=({(l0 p b s a).1 with ab:=(l0 p b s a).1.ab.set (aS (l0 p b s a).1.ab a).toNat (gY p b s a).1},bP p s a,0):=by
 have ld:da p b s a=
  if aV p b≠0 then(aN,aW,aV p b)else if bT p b s=false then(aN,aW,1)else if(bg p s a).2.2=false∨z20 s (cl p s a) (c5 p s a)=false then(aN,aW,19)else if(cW p s a).2.2≠0 then(aN,aW,30)
  else if(l0 p b s a).2≠0 then(aN,aW,(l0 p b s a).2)else if(gY p b s a).2≠0 then(aN,aW,(gY p b s a).2)else({(l0 p b s a).1 with ab:=(l0 p b s a).1.ab.set (aS (l0 p b s a).1.ab a).toNat (gY p b s a).1},bP p s a,0):=rfl
 rw[ld]at h0 ⊢
 split at h0
 . rename_i h;exact absurd h0 h
 rename_i h1
 split at h0
 . exact absurd h0 (by decide)
 rename_i h2
 split at h0
 . exact absurd h0 (by decide)
 rename_i h3
 split at h0
 . exact absurd h0 (by decide)
 rename_i h4
 split at h0
 . rename_i h;exact absurd h0 h
 rename_i h5
 split at h0
 . rename_i h;exact absurd h0 h
 rename_i h6
 rw[x8 h1,x8 h2,x8 h3,x8 h4,x8 h5,x8 h6]
 refine⟨ye.1 h1,by simpa using h2, ?_, ?_,ye.1 h4,ye.1 h5,ye.1 h6,rfl⟩
 . cases h:(bg p s a).2.2 with
   |true=>rfl
   |false=>exact absurd (.inl h) h3
 . cases h:z20 s (cl p s a) (c5 p s a)with
   |true=>rfl
   |false=>exact absurd (.inr h) h3
structure oE (t:ag):Prop where
 len:t.ae.length=t.ab.length
 buf:∀ j,j<t.ab.length ->(t.ae.getD j az).ay=(t.ab.getD j ao).id/\(t.ae.getD j az).entries=[]/\0<=(t.ae.getD j az).first/\((t.ae.getD j az).first=0∨(t.ae.getD j az).first<=(t.ab.getD j ao).steps)
theorem anb (E:oE t) (h:bT p b (bN t)=true):cQ p b t=true:=by
 obtain⟨h1,_,h3⟩:=oP.1 h
 refine z12.2 ⟨h1,E.len,λj hj=>⟨h3 j hj,nM.2 ?_⟩⟩
 obtain⟨b1,b2,b3,b4⟩:=E.buf j hj
 obtain⟨a,c⟩:=mD.1 (h3 j hj).1
 have F:=oo c
 have st:0<=(t.ab.getD j ao).steps/\(t.ab.getD j ao).steps<=b:=F.steps
 have id:0<=(t.ab.getD j ao).id/\_:=tO F.id
 have hb:=(l6 a).2
 refine⟨(z21 _).2 ⟨⟨by rw[b1];exact id.1,b3,by omega,by rw[b2];show _+((0:Nat):Int)<=_;omega⟩,λi hi=>?_⟩,b1,λi hi=>?_⟩
 . rw[b2]at hi;exact absurd hi (jo _)
 . rw[b2]at hi;exact absurd hi (jo _)
theorem alv (E:oE t) (j:Nat):(t.ae.getD j az).entries=[]:=by
 by_cases h:j<t.ab.length
 . exact(E.buf j h).2.1
 . rw[x7,y9 (by rw[E.len];omega)];rfl
theorem ani (E:oE t) (k:Nat) (v:Int):(fm t k v).1=(fo t.mem v).1:=by
 unfold fm eY
 rw[alv E]
 split
 . rfl
 . rfl
theorem an7 (l:List bR) (id:Int):∀ n,n<=l.length ->0<=iF l id n ->(iF l id n).toNat<l.length/\(l.getD (iF l id n).toNat az).ay=id
 |0,_,h=>absurd h (by show ¬ (0:Int)<= -1;decide)
 |k+1,hk,h=>by
  unfold iF at h ⊢
  split
  . rename_i e
    rw[gp]
    exact⟨by omega,e⟩
  . rename_i e
    rw[x8 e]at h
    exact an7 l id k (by omega) h
theorem an6 (l:List bR) (id:Int) (k:Nat) (hk:k<l.length) (e:(l.getD k az).ay=id):∀ n,n<=l.length ->l.length - n<=k ->0<=iF l id n
 |0,_,h=>by omega
 |n+1,hn,h=>by
  unfold iF
  split
  . exact Int.natCast_nonneg _
  . rename_i ne
    by_cases q:l.length - (n+1)=k
    . rw[q]at ne;exact absurd e ne
    . exact an6 l id k hk e n (by omega) (by omega)
theorem anz (E:oE t) {r:Int} (h:0<=aS t.ab r):0<=db t.ae r:=by
 obtain⟨h1,h2⟩:=nL h
 exact an6 _ _ (aS t.ab r).toNat (by rw[E.len];exact h1) (by rw[(E.buf _ h1).1];exact h2) _ (xm _) (by omega)
theorem anx {t:aB} (h:cm p t=true):t.status=1/\fq p 32 t=true:=by
 unfold cm at h
 rw[xa,xo]at h
 exact h
theorem anm (hp:bI p) (hT:cw t) (E:oE t) (h:bT p b (bN t)=true) (hr:(bg p (bN t) a).2.2=true) (he:z20 (bN t) (cl p (bN t) a) (c5 p (bN t) a)=true):aQ (cL p t) a=true:=by
 have hv32:=afz (anb E h)
 have hon:=(zro h).2 ⟨hr,he⟩
 obtain⟨r1,r2,r3,r4⟩:=NG hr
 have r1:0<=aS t.ab a:=r1
 obtain⟨f1,f2⟩:=nL r1
 obtain⟨k,hk⟩:∃ k,k=(aS t.ab a).toNat:=⟨_,rfl⟩
 have r2:cl p (bN t) a=t.ab.getD k ao:=by rw[hk];exact r2
 rw[<- hk]at f1 f2
 rw[r3,r2]at he
 rw[r2]at r4
 obtain⟨g1,g2,g3,_,_,_⟩:=zhu hp (hT.ok k) (oP.1 h).1 r4
 have on:fu p t k (cX p (bN t))=true:=by
  by_cases h8:(zg p (t.ab.getD k ao)).op=8∨(zg p (t.ab.getD k ao)).op=9
  . exact agk r4 h8
  by_cases h14:(zg p (t.ab.getD k ao)).op=14
  . rw[ag4 r4 h14,ani E]
    unfold z20 at he
    rw[x9 h14]at he
    obtain⟨q1,q2⟩:=anx r4
    obtain⟨q3,q4⟩:=mD.1 q2
    have P:jM p:=⟨hp,(l6 q3).1⟩
    have c1:=(vO (vi P (g3.wf (hT.ok k)) (sZ q4 q1).2.1)).1
    rw[g2]at h14
    have c2:=(zj1 c1).2.1 (by rw[h14];decide)
    rw[<- g2]at c2
    rw[zwc c2]
    exact he
  have hd:¬ ((nN (zg p (t.ab.getD k ao)).op&&decide (0<(t.ae.getD k az).entries.length)) || !aQ (cX p (bN t)) (t.ab.getD k ao).id)=true:=by
   rw[alv E,f2,hon]
   simp
  by_cases h22:(zg p (t.ab.getD k ao)).op=22
  . rw[aet r4 h8 h14 hd h22]
    unfold z20 at he
    rw[x8 h14,x8 (by omega),x8 (by omega),x9 h22]at he
    unfold xT at he
    rw[xa,xd]at he
    rw[wy (anz E he.1),alv E]
    rfl
  . exact akg r4 h8 h14 hd h22
 rw[zcu,<- zrz hv32,z59]
 refine List.mem_flatMap.2 ⟨k,yl.2 f1,xx.2 (.inl ?_)⟩
 rw[x9 (by rw[aal hv32 f1];exact on),f2]
 exact y3.2 rfl
theorem alz (hs:aV p b=0) (hv:cQ p b s=true) (hh:aQ (cL p s) a=true):
 zt p b s a=if fj (zu p s a).1 then
  (if(dn p b s (aS s.ab (aX a)).toNat (zu p s a).1).2≠0 then(aN,aW,(dn p b s (aS s.ab (aX a)).toNat (zu p s a).1).2)else((dn p b s (aS s.ab (aX a)).toNat (zu p s a).1).1,(zu p s a).1,0))
 else dH p b s a:=by
 obtain⟨a1,a2,a3⟩:=l6 hs
 unfold zt
 rw[x8 (by simp[a1]),x8 (by omega),x8 (by simp[hv]),x8 (by simp[hh])]
theorem ano (s:ag) (t:aB) {i:aK} (h:i.op=8∨i.op=14):((aR s t i).kind=1∨(aR s t i).kind=8)/\(aR s t i).read=(fo s.mem i.obj).1:=by
 unfold aR
 rw[x8 (by omega),x8 (by omega),x8 (by omega),x8 (by omega),x8 (by omega),x8 (by omega),x8 (by omega),x8 (by omega),x8 (by omega)]
 unfold bz
 dsimp only
 rcases h with h |h
 . rw[x9 h];exact⟨.inl rfl,rfl⟩
 . rw[x8 (by omega),x9 h];exact⟨.inr rfl,rfl⟩
theorem anj (s:ag) (t:aB) {i:aK} (h:i.op=9):(aR s t i).kind=2/\(aR s t i).obj=i.obj/\(aR s t i).wrote=bp t i.b:=by
 unfold aR
 rw[x8 (by omega),x8 (by omega),x8 (by omega),x8 (by omega),x8 (by omega),x8 (by omega),x8 (by omega),x8 (by omega),x8 (by omega)]
 unfold bz
 dsimp only
 rw[x8 (by omega),x8 (by omega),x9 h];exact⟨rfl,rfl,rfl⟩
theorem ao7 (s:ag) (t:aB) {i:aK} (h:8<=i.op/\i.op<=22) (h9:¬ i.op=9):(aR s t i).kind≠2:=by
 rcases zbg h with e |e |e |e |e |e |e |e |e |e |e |e |e |e |e
 all_goals try (exact absurd e h9)
 all_goals simp only[aR,bz,im,iP,e,reduceIte,Int.reduceEq,or_true,true_or,jr,jg,js,and_self]
 . split<;>simp
 . split
   . simp
   . split<;>simp
theorem aob {t:aB} {r:Int} (h:(cd p b t r).2=0):fq p b t=true/\t.status=1/\wr r=r:=by
 unfold cd at h
 split at h
 . rename_i q;exact absurd h q
 . rename_i q0
   split at h
   . exact absurd h (by decide)
   . rename_i q1
     split at h
     . exact absurd h (by decide)
     . rename_i q2
       split at h
       . exact absurd h (by decide)
       . rename_i q3
         exact⟨mD.2 ⟨ye.1 q0,by simpa using q1⟩,ye.1 q2,ye.1 q3⟩
theorem gS {α:Type} {l:List α} {k:Nat} {x d:α} (h:k<l.length):(l.set k x).getD k d=x:=by
 rw[x7,List.getElem?_set_self h];rfl
theorem gN {α:Type} {l:List α} {k j:Nat} {x d:α} (h:k≠j):(l.set k x).getD j d=l.getD j d:=by
 rw[x7,List.getElem?_set_ne h,<- x7]
structure StF (p:ai) (b:Int) (t:ag) (a:Int) (k:Nat) (r:Int):Prop where
 std:aV p b=0
 val:bT p b (bN t)=true
 vts:cQ p b t=true
 has:aQ (cL p t) a=true
 a0:0<=a
 aS:aS t.ab a=(k:Int)
 lt:k<t.ab.length
 id:(t.ab.getD k ao).id=a
 run:(bg p (bN t) a).2.2=true
 sT:cl p (bN t) a=t.ab.getD k ao
 sI:c5 p (bN t) a=zg p (t.ab.getD k ao)
 alu:cm p (t.ab.getD k ao)=true
 read:(cW p (bN t) a).2.1=r
 vt:fq p b (t.ab.getD k ao)=true
 st:(t.ab.getD k ao).status=1
 wr:wr r=r
 x0:(cW p (bN t) a).2.2=0
 sp0:(l0 p b (bN t) a).2=0
 eq:da p b (bN t) a=({(l0 p b (bN t) a).1 with ab:=(l0 p b (bN t) a).1.ab.set (Go.Proofs.S25.aS (l0 p b (bN t) a).1.ab a).toNat (cd p b (t.ab.getD k ao) r).1},bP p (bN t) a,0)
 cv:fq p b (cd p b (t.ab.getD k ao) r).1=true
 c0:(cd p b (t.ab.getD k ao) r).2=0
 cid:(cd p b (t.ab.getD k ao) r).1.id=(t.ab.getD k ao).id
 cst:(cd p b (t.ab.getD k ao) r).1.steps=(t.ab.getD k ao).steps+1
theorem ao6 (hp:bI p) (hT:cw t) (E:oE t) (h0:(da p b (bN t) a).2.2=0):∃ k r,StF p b t a k r:=by
 obtain⟨s1,s2,s3,s4,s5,s6,s7,s8⟩:=anr h0
 have hv:=anb E s2
 have hh:=anm hp hT E s2 s3 s4
 obtain⟨r1,r2,r3,r4⟩:=NG s3
 have r1:0<=aS t.ab a:=r1
 obtain⟨f1,f2⟩:=nL r1
 have r2:cl p (bN t) a=t.ab.getD (aS t.ab a).toNat ao:=r2
 rw[r2]at r3 r4
 have e:gY p b (bN t) a=cd p b (t.ab.getD (aS t.ab a).toNat ao) (cW p (bN t) a).2.1:=by unfold gY;rw[r2]
 rw[e]at s7 s8
 obtain⟨c1,c2,c3⟩:=aob s7
 obtain⟨d1,d2,_⟩:=anu hp (hT.ok _) c1 c2 c3
 obtain⟨i1,i2⟩:=ao5 c1 c2 c3
 have ha:=(sG hv f1).1
 rw[f2]at ha
 exact⟨(aS t.ab a).toNat,_,s1,s2,hv,hh,ha,by omega,f1,f2,s3,r2,r3,r4,rfl,c1,c2,c3,s5,s6,s8,d1,d2,i1,i2⟩
theorem ao0 (E:oE t) {k:Nat} {T:aB} (hid:T.id=(t.ab.getD k ao).id) (hst:T.steps=(t.ab.getD k ao).steps+1) (hk:k<t.ab.length):oE {t with ab:=t.ab.set k T}:=by
 refine⟨by rw[yy];exact E.len,λj hj=>?_⟩
 have hj:j<t.ab.length:=by rw[yy]at hj;exact hj
 obtain⟨b1,b2,b3,b4⟩:=E.buf j hj
 refine⟨?_,b2,b3, ?_⟩
 . show _=((t.ab.set k T).getD j ao).id
   by_cases e:k=j
   . subst e;rw[gS hk,hid];exact b1
   . rw[gN e];exact b1
 . show _∨_<=((t.ab.set k T).getD j ao).steps
   by_cases e:k=j
   . subst e;rw[gS hk,hst];exact b4.imp id λq=>Int.le_trans q (by omega)
   . rw[gN e];exact b4
theorem amt (F:StF p b t a k r):zu p t a=bU p t k/\(aS t.ab (aX a)).toNat=k:=by
 have h1:=F.aS
 have h2:=F.a0
 unfold zu
 rw[aip F.a0,x8 (by omega),x8 (by omega),F.aS]
 exact⟨rfl,rfl⟩
theorem anw (E:oE t) (F:StF p b t a k r) (h8:(zg p (t.ab.getD k ao)).op=8∨(zg p (t.ab.getD k ao)).op=14):
 (da p b (bN t) a).2.1.kind≠2/\(zt p b t a).2.2=0/\(da p b (bN t) a).1=bN (zt p b t a).1/\oE (zt p b t a).1:=by
 obtain⟨l1,l2⟩:=ano (bN t) (t.ab.getD k ao) h8
 have eE:bP p (bN t) a=aR (bN t) (t.ab.getD k ao) (zg p (t.ab.getD k ao)):=by unfold bP;rw[F.sT,F.sI]
 rw[<- eE]at l1 l2
 have eX:cW p (bN t) a=(t.mem,(bP p (bN t) a).read,0):=by
  unfold cW cY
  rw[x8 (by omega),x8 (by omega),x9 l1];rfl
 have er:r=(fo t.mem (zg p (t.ab.getD k ao)).obj).1:=by rw[<- F.read,eX];exact l2
 have eW:l0 p b (bN t) a=({bN t with mem:=t.mem},0):=by
  unfold l0
  rw[x8 (by omega),eX]
 have eS:=F.eq
 rw[eW]at eS
 have ef:(aS ({bN t with mem:=t.mem}:ag).ab a).toNat=k:=by show(aS t.ab a).toNat=k;rw[F.aS];rfl
 obtain⟨n1,n2⟩:=amt F
 rw[zhn F.alu h8]at n1
 have go:=alz F.std F.vts F.has
 have eT:dn p b t (aS t.ab (aX a)).toNat (zu p t a).1=({t with ab:=t.ab.set k (cd p b (t.ab.getD k ao) r).1},0):=by
  rw[n2,n1]
  unfold dn
  dsimp only
  rw[ani E,<- er]
  rw[x8 (by split<;>decide),x8 (by split<;>decide),x8 (by rw[F.c0];decide)]
 have ow:fj (zu p t a).1=true:=by
  rw[n1];unfold fj;dsimp only
  split<;>rfl
 rw[x9 ow,eT,x8 (λh=>h rfl)]at go
 rw[go,eS]
 refine⟨by show(bP p (bN t) a).kind≠2;omega,rfl, ?_,ao0 E F.cid F.cst F.lt⟩
 dsimp only
 rw[ef]
 rfl
theorem aod {id fn arg:Int} (h:(ba p b id fn arg).2=0):(ba p b id fn arg).1.id=id:=by
 unfold ba at h ⊢
 split at h
 . rename_i q;exact absurd h q
 . split at h
   . exact absurd h (by decide)
   . split at h
     . exact absurd h (by decide)
     . split at h
       . exact absurd h (by decide)
       . rename_i q0 q1 q2 q3
         rw[x8 q0,x8 q1,x8 q2,x8 q3]
         exact zbh p b 256 _
theorem ane (hb:s.ae=[]) (h:(l0 p b s a).2=0):(l0 p b s a).1.ae=[]/\((l0 p b s a).1.ab=s.ab∨∃ N n,aS s.ab N.id<0/\n<=s.ab.length/\(l0 p b s a).1.ab=gB s.ab N n):=by
 unfold l0 at h ⊢
 split at h
 . rename_i hk
   rw[x9 hk]
   unfold eH at h ⊢
   split at h
   . exact absurd h (by decide)
   . rename_i q
     split at h
     . exact absurd h (by decide)
     . rename_i q2
       rw[x8 q,x8 q2]
       refine⟨hb, .inr ⟨_,_, ?_,uj _ _,rfl⟩⟩
       rw[aod (ye.1 q2)]
       exact Int.not_le.1 q
 . rename_i hk
   rw[x8 hk]
   exact⟨hb, .inl rfl⟩
theorem ao3 (F:StF p b t a k r) (i j:Nat) (hi:i<t.ab.length) (h:((da p b (bN t) a).1.ab.getD j ao).id=(t.ab.getD i ao).id) (hj:j<(da p b (bN t) a).1.ab.length):(t.ab.getD i ao).steps<=((da p b (bN t) a).1.ab.getD j ao).steps:=by
 have V:=zm6 F.vts
 rw[F.eq]at h hj ⊢
 have hj:j<((l0 p b (bN t) a).1.ab.set _ (cd p b (t.ab.getD k ao) r).1).length:=hj
 rw[yy]at hj
 have h:(((l0 p b (bN t) a).1.ab.set (aS (l0 p b (bN t) a).1.ab a).toNat (cd p b (t.ab.getD k ao) r).1).getD j ao).id=(t.ab.getD i ao).id:=h
 show _<=(((l0 p b (bN t) a).1.ab.set (aS (l0 p b (bN t) a).1.ab a).toNat (cd p b (t.ab.getD k ao) r).1).getD j ao).steps
 by_cases e:(aS (l0 p b (bN t) a).1.ab a).toNat=j
 . rw[e]at h ⊢
   rw[gS hj]at h ⊢
   rw[F.cid,F.id]at h
   have h1:=zg0 V hi
   rw[<- h,F.aS]at h1
   have :k=i:=by omega
   subst this
   rw[F.cst];omega
 . rw[gN e]at h ⊢
   rcases(ane (s:=bN t) rfl F.sp0).2 with q | ⟨N,n,q1,q2,q⟩
   . rw[q]at h ⊢
     have h:(t.ab.getD j ao).id=(t.ab.getD i ao).id:=h
     rw[q]at hj
     have h1:=zg0 V hi
     rw[<- h,zg0 V hj]at h1
     have :j=i:=by omega
     subst this
     exact yr _
   . have q:(l0 p b (bN t) a).1.ab=gB t.ab N n:=q
     rw[q]at h hj ⊢
     have q2:n<=t.ab.length:=q2
     have q1:aS t.ab N.id<0:=q1
     rw[z9q _ _ _ q2]at hj
     have hj:j<t.ab.length+1:=hj
     rw[z9r _ _ _ q2]at h ⊢
     have old:∀ m,m<t.ab.length ->(t.ab.getD m ao).id=(t.ab.getD i ao).id ->(t.ab.getD i ao).steps<=(t.ab.getD m ao).steps:=λm hm h=>by
      have h1:=zg0 V hi
      rw[<- h,zg0 V hm]at h1
      have :m=i:=by omega
      subst this
      exact yr _
     split at h
     . rename_i c;rw[x9 c];exact old j (by omega) h
     . rename_i c
       rw[x8 c]
       split at h
       . rename_i c2
         rw[h]at q1
         rw[zg0 V hi]at q1
         omega
       . rename_i c2;rw[x8 c2];exact old (j - 1) (by omega) h
theorem ao8 (hp:bI p) (hT:cw t) (E:oE t) (F:StF p b t a k r) (h8:¬ (zg p (t.ab.getD k ao)).op=8) (h14:¬ (zg p (t.ab.getD k ao)).op=14) (h9:¬ (zg p (t.ab.getD k ao)).op=9):
 (da p b (bN t) a).2.1.kind≠2/\(zt p b t a).2.2=0/\(da p b (bN t) a).1=bN (zt p b t a).1/\oE (zt p b t a).1:=by
 obtain⟨g1,g2,_⟩:=zhu hp (hT.ok k) (oP.1 F.val).1 F.alu
 rw[<- g2]at g1
 obtain⟨n1,n2⟩:=amt F
 rw[zqs F.alu h8 h14 h9,F.id]at n1
 have eE:bP p (bN t) a=aR (bN t) (t.ab.getD k ao) (zg p (t.ab.getD k ao)):=by unfold bP;rw[F.sT,F.sI]
 have eL:(bA p (bN t) a).1=bP p (bN t) a:=by
  unfold bA
  rw[x8 (by rw[agy F.val];decide),x8 (by rw[F.run];decide)];rfl
 obtain⟨k1,k2,k3,k4⟩:=ajl (bN t) (t.ab.getD k ao) g1.ok.op h8 h14 h9
 have k5:=ao7 (bN t) (t.ab.getD k ao) g1.ok.op h9
 rw[<- eE]at k1 k2 k3 k4 k5
 have ow:fj (zu p t a).1=false:=by
  rw[n1,eL];unfold fj
  simp[k1,k2,k3,k4]
 have go:=alz F.std F.vts F.has
 have e0:(da p b (bN t) a).2.2=0:=by rw[F.eq]
 rw[x8 (by rw[ow];decide)]at go
 unfold dH at go
 rw[x8 (λh=>h e0)]at go
 have eb:(da p b (bN t) a).1.ae=[]:=by rw[F.eq];exact(ane (s:=bN t) rfl F.sp0).1
 refine⟨by rw[F.eq];exact k5,by rw[go], ?_, ?_⟩
 . rw[go]
   show(da p b (bN t) a).1={(da p b (bN t) a).1 with ae:=[]}
   rw[<- eb]
 . rw[go]
   have hl:(eJ (da p b (bN t) a).1.ab t.ae (da p b (bN t) a).1.ab.length).length=(da p b (bN t) a).1.ab.length:=xY _ _ _ (xm _)
   refine⟨hl,λj hj=>?_⟩
   have hj:j<(da p b (bN t) a).1.ab.length:=hj
   show((eJ _ _ _).getD j az).ay=((da p b (bN t) a).1.ab.getD j ao).id/\((eJ _ _ _).getD j az).entries=[]/\0<=((eJ _ _ _).getD j az).first/\(((eJ _ _ _).getD j az).first=0∨((eJ _ _ _).getD j az).first<=((da p b (bN t) a).1.ab.getD j ao).steps)
   rw[z9l _ _ _ (xm _) j hj]
   unfold sC
   split
   . rename_i q
     obtain⟨q1,q2⟩:=an7 _ _ _ (xm _) q
     have q1:(db t.ae ((da p b (bN t) a).1.ab.getD j ao).id).toNat<t.ab.length:=by rw[<- E.len];exact q1
     obtain⟨b1,b2,b3,b4⟩:=E.buf _ q1
     have q2:(t.ae.getD (db t.ae ((da p b (bN t) a).1.ab.getD j ao).id).toNat az).ay=_:=q2
     exact⟨q2,b2,b3,b4.imp id λq=>Int.le_trans q (ao3 F _ j q1 (by rw[<- b1,q2]) hj)⟩
   . exact⟨rfl,rfl,yr _, .inl rfl⟩
theorem ao4 {m:Mem} {x v:Int} (h:(zr m x v).2=0):(0<=x/\x<m.vars.length)/\ -2147483648<=v/\v<=2147483647:=by
 unfold zr at h
 split at h
 . rename_i q;exact absurd h q
 . rename_i q
   split at h
   . exact absurd h (by decide)
   . unfold bC at q
     split at q
     . exact absurd (by decide:(1:Int)≠0) q
     . split at q
       . exact absurd (by decide:(11:Int)≠0) q
       . omega
theorem anv (hv:cQ p b t=true) (hk:k<t.ab.length) (h:0<(t.ae.getD k az).entries.length):aQ (cL p t) (cO (t.ab.getD k ao).id)=true:=by
 have hv32:=afz hv
 rw[zcu,<- zrz hv32,z59]
 refine List.mem_flatMap.2 ⟨k,yl.2 hk,xx.2 (.inr ?_)⟩
 rw[x9 (by rw[ab3 hv32 hk];exact wy h)]
 exact y3.2 rfl
theorem aog (hp:bI p) (E:oE t) (F:StF p b t a k r) (h9:(zg p (t.ab.getD k ao)).op=9):
 (zt p b t a).2.2=0/\(zt p b (zt p b t a).1 (-1 - a)).2.2=0/\(da p b (bN t) a).1=bN (zt p b (zt p b t a).1 (-1 - a)).1/\oE (zt p b (zt p b t a).1 (-1 - a)).1:=by
 obtain⟨l1,l2,l3⟩:=anj (bN t) (t.ab.getD k ao) h9
 have eE:bP p (bN t) a=aR (bN t) (t.ab.getD k ao) (zg p (t.ab.getD k ao)):=by unfold bP;rw[F.sT,F.sI]
 rw[<- eE]at l1 l2 l3
 obtain⟨x,hx⟩:∃ x,x=(zg p (t.ab.getD k ao)).obj:=⟨_,rfl⟩
 obtain⟨v,hv⟩:∃ v,v=bp (t.ab.getD k ao) (zg p (t.ab.getD k ao)).b:=⟨_,rfl⟩
 rw[<- hx]at l2
 rw[<- hv]at l3
 have eX:cW p (bN t) a=((zr t.mem x v).1,0,(zr t.mem x v).2):=by
  unfold cW cY
  rw[x8 (by omega),x9 l1,l2,l3];rfl
 have er:r=0:=by rw[<- F.read,eX]
 subst er
 have w0:(zr t.mem x v).2=0:=by have :=F.x0;rw[eX]at this;exact this
 obtain⟨w1,w2⟩:=ao4 w0
 have eW:l0 p b (bN t) a=({bN t with mem:=(zr t.mem x v).1},0):=by
  unfold l0
  rw[x8 (by omega),eX]
 have eS:=F.eq
 rw[eW]at eS
 have ef:(aS ({bN t with mem:=(zr t.mem x v).1}:ag).ab a).toNat=k:=by show(aS t.ab a).toNat=k;rw[F.aS];rfl
 obtain⟨T,hT⟩:∃ T,T=t.ab.getD k ao:=⟨_,rfl⟩
 obtain⟨C,hC⟩:∃ C,C=(cd p b (t.ab.getD k ao) 0).1:=⟨_,rfl⟩
 obtain⟨u,hu⟩:∃ u,u=t.ae.getD k az:=⟨_,rfl⟩
 have hkb:k<t.ae.length:=by rw[E.len];exact F.lt
 obtain⟨b1,b2,b3,b4⟩:=E.buf k F.lt
 rw[<- hu]at b1 b2 b3 b4
 obtain⟨q3,q4⟩:=mD.1 F.vt
 have hst:=(sZ q4 F.st).2.2.2.2
 have hst0:0<=(t.ab.getD k ao).steps:=(oo q4).steps.1
 have hb:=(l6 q3).2
 have P:jM p:=⟨hp,(l6 q3).1⟩
 obtain⟨v1,v2,v3⟩:=z12.1 F.vts
 have hm:t.mem.vars.length=p.vars.length:=by
  unfold ec at v1
  simp only[xa,xo]at v1
  exact v1.2.2.1
 have hv8:=P.ac9.1.1
 have vu:bQ u=true:=by rw[hu];exact(nM.1 (v3 k F.lt).2).1
 -- the store
 obtain⟨n1,n2⟩:=amt F
 rw[zqr F.alu h9,<- hx,<- hv]at n1
 have go:=alz F.std F.vts F.has
 have e1:dn p b t (aS t.ab (aX a)).toNat (zu p t a).1=({t with ae:=t.ae.set k ⟨u.ay,u.first,[⟨x,v⟩]⟩,ab:=t.ab.set k C},0):=by
  rw[n2,n1]
  unfold dn
  dsimp only
  have ep:cq (t.ae.getD k az) x v=(⟨u.ay,u.first,[⟨x,v⟩]⟩,u.first+0,0):=by
   rw[<- hu]
   unfold cq
   rw[x8 (by rw[vu];decide),x8 (by omega),x8 (by omega),b2,x8 (by show ¬ u.first+((0:Nat):Int)=32;omega)];rfl
  rw[x8 (by decide),x9 rfl,ep,x8 (λh=>h rfl),x8 (by rw[F.c0];decide),hC]
 have ow:fj (zu p t a).1=true:=by rw[n1];rfl
 rw[x9 ow,e1,x8 (λh=>h rfl)]at go
 obtain⟨t1,ht1⟩:∃ t1:ag,t1={t with ae:=t.ae.set k ⟨u.ay,u.first,[⟨x,v⟩]⟩,ab:=t.ab.set k C}:=⟨_,rfl⟩
 rw[<- ht1]at go
 have g1:(zt p b t a).1=t1:=by rw[go]
 have g0:(zt p b t a).2.2=0:=by rw[go]
 -- the state between is valid
 have ids:∀ j,(t1.ab.getD j ao).id=(t.ab.getD j ao).id:=λj=>by rw[ht1,hC];exact ao1 (id:=0) F.cid j
 have l1t:t1.ab.length=t.ab.length:=by rw[ht1];exact yy
 have l1b:t1.ae.length=t.ae.length:=by rw[ht1];exact yy
 have uk:t1.ae.getD k az=⟨u.ay,u.first,[⟨x,v⟩]⟩:=by rw[ht1];exact gS hkb
 have v':cQ p b t1=true:=by
  refine z12.2 ⟨by rw[ht1];exact v1,by rw[l1t,l1b];exact v2,λj hj=>?_⟩
  rw[l1t]at hj
  obtain⟨o1,o2⟩:=v3 j hj
  refine⟨⟨?_, ?_⟩, ?_⟩
  . rw[ht1]
    show fq p b ((t.ab.set k C).getD j ao)=true
    by_cases e:k=j
    . subst e;rw[gS hj,hC];exact F.cv
    . rw[gN e];exact o1.1
  . rw[ids,ids];exact o1.2
  . refine nM.2 ?_
    rw[ids]
    by_cases e:k=j
    . subst e
      rw[uk]
      refine⟨(z21 _).2 ⟨⟨by show 0<=u.ay;rw[b1,F.id];exact F.a0,b3,by show u.first<=32;omega,by show u.first+((1:Nat):Int)<=32;omega⟩,λi hi=>?_⟩,b1,λi hi=>?_⟩
      . have hi:i<1:=hi
        have :i=0:=by omega
        subst this
        exact(zhj _).2 ⟨w1.1,by show x<8;omega,w2.1,w2.2⟩
      . have hi:i<1:=hi
        have :i=0:=by omega
        subst this
        show x<(p.vars.length:Int)
        omega
    . rw[show t1.ae.getD j az=t.ae.getD j az by rw[ht1];exact gN e]
      exact nM.1 o2
 have hk1:k<t1.ab.length:=by rw[l1t];exact F.lt
 have idk:(t1.ab.getD k ao).id=a:=by rw[ids];exact F.id
 have ea:cO a= -1 - a:=by rw[Vd F.a0];omega
 have h1:=anv v' hk1 (by rw[uk];show 0<1;decide)
 rw[idk,ea]at h1
 have f1:aS t1.ab (aX (-1 - a))=(k:Int):=by
  rw[<- ea,ae7 F.a0,<- idk];exact zg0 (zm6 v') hk1
 have m1:zu p t1 (-1 - a)=(⟨cO a,u.first,4,x,-1,u.first,0,0,v⟩,true):=by
  have :=F.a0
  unfold zu
  rw[f1,x8 (by omega),x9 (by omega),gp]
  unfold cg
  dsimp only
  rw[uk,idk]
  rfl
 have go2:=alz F.std v' h1
 have e2:dn p b t1 (aS t1.ab (aX (-1 - a))).toNat (zu p t1 (-1 - a)).1=({t1 with ae:=t1.ae.set k ⟨u.ay,u.first+1,[]⟩,mem:=(zr t.mem x v).1},0):=by
  rw[f1,m1,gp]
  unfold dn
  dsimp only
  have vk:bQ (t1.ae.getD k az)=true:=(nM.1 ((z12.1 v').2.2 k hk1).2).1
  rw[uk]at vk
  have mm:t1.mem=t.mem:=by rw[ht1]
  rw[uk,XO vk (by show 1≠0;decide),mm,x9 rfl,x8 (λh=>h rfl),x8 (λh=>h w0)]
  rfl
 have ow2:fj (zu p t1 (-1 - a)).1=true:=by rw[m1];rfl
 rw[x9 ow2,e2,x8 (λh=>h rfl)]at go2
 refine⟨g0,by rw[g1,go2], ?_, ?_⟩
 . rw[g1,go2,eS]
   dsimp only
   rw[ef,<- hC,ht1];rfl
 . rw[g1,go2]
   refine⟨by show(t1.ae.set _ _).length=_;rw[yy,l1b,l1t];exact E.len,λj hj=>?_⟩
   have hj:j<t.ab.length:=by rw[<- l1t];exact hj
   show((t1.ae.set k ⟨u.ay,u.first+1,[]⟩).getD j az).ay=(t1.ab.getD j ao).id/\((t1.ae.set k ⟨u.ay,u.first+1,[]⟩).getD j az).entries=[]/\0<=((t1.ae.set k ⟨u.ay,u.first+1,[]⟩).getD j az).first/\(((t1.ae.set k ⟨u.ay,u.first+1,[]⟩).getD j az).first=0∨((t1.ae.set k ⟨u.ay,u.first+1,[]⟩).getD j az).first<=(t1.ab.getD j ao).steps)
   by_cases e:k=j
   . subst e
     rw[gS (by rw[l1b];exact hkb)]
     refine⟨by rw[ids];exact b1,rfl,by show 0<=u.first+1;omega, .inr ?_⟩
     have :t1.ab.getD k ao=C:=by rw[ht1];exact gS F.lt
     rw[this,hC,F.cst]
     show u.first+1<=_
     omega
   . rw[gN e,ids,show t1.ae.getD j az=t.ae.getD j az by rw[ht1];exact gN e,show t1.ab.getD j ao=t.ab.getD j ao by rw[ht1];exact gN e]
     exact E.buf j hj
theorem an8 (hp:bI p) (hT:cw t) (E:oE t) (h0:(da p b (bN t) a).2.2=0):
 (zt p b t a).2.2=0/\
 ((da p b (bN t) a).2.1.kind=2 ->(zt p b (zt p b t a).1 (-1 - a)).2.2=0/\(da p b (bN t) a).1=bN (zt p b (zt p b t a).1 (-1 - a)).1/\oE (zt p b (zt p b t a).1 (-1 - a)).1)/\
 ((da p b (bN t) a).2.1.kind≠2 ->(da p b (bN t) a).1=bN (zt p b t a).1/\oE (zt p b t a).1):=by
 obtain⟨k,r,F⟩:=ao6 hp hT E h0
 by_cases h9:(zg p (t.ab.getD k ao)).op=9
 . have hk:(da p b (bN t) a).2.1.kind=2:=by
    rw[F.eq]
    show(bP p (bN t) a).kind=2
    unfold bP
    rw[F.sT,F.sI]
    exact(anj _ _ h9).1
   obtain⟨q1,q2,q3,q4⟩:=aog hp E F h9
   exact⟨q1,λ_=>⟨q2,q3,q4⟩,λh=>absurd hk h⟩
 . by_cases h8:(zg p (t.ab.getD k ao)).op=8∨(zg p (t.ab.getD k ao)).op=14
   . obtain⟨q1,q2,q3,q4⟩:=anw E F h8
     exact⟨q2,λh=>absurd h q1,λ_=>⟨q3,q4⟩⟩
   . obtain⟨q1,q2,q3,q4⟩:=ao8 hp hT E F (λh=>h8 (.inl h)) (λh=>h8 (.inr h)) h9
     exact⟨q2,λh=>absurd h q1,λ_=>⟨q3,q4⟩⟩
theorem anl (p:ai) (b:Int):(zj p b).1=bN (zp p b).1/\oE (zp p b).1:=by
 unfold zp
 split
 . rename_i h
   have e:zj p b=(aN,aV p b):=by unfold zj;rw[x9 h]
   rw[e]
   exact⟨rfl,rfl,λj hj=>absurd hj (jo _)⟩
 . rename_i h
   have e:zj p b=(⟨eD p b p.ab.length,(bf p).1,[]⟩,0):=by unfold zj;rw[x8 h]
   rw[e]
   refine⟨rfl,xY _ _ _ (xm _),λj hj=>?_⟩
   have hj:j<(eD p b p.ab.length).length:=hj
   have q:(rX ⟨eD p b p.ab.length,(bf p).1,[]⟩ []).ae.getD j az=sC [] ((eD p b p.ab.length).getD j ao).id:=z9l _ _ _ (xm _) j hj
   rw[q]
   have f:db ([]:List bR) ((eD p b p.ab.length).getD j ao).id= -1:=rfl
   unfold sC
   rw[f,x8 (by decide)]
   exact⟨rfl,rfl,yr _, .inl rfl⟩
theorem an0 {p:ai} {b:Int} {l:List Int} (hp:bI p) (w0:mz (zp p b).1 0 399000):∀ i,i<=200 ->(∀ j,j<i ->ov p b l j) ->(j8 p b l i).1=bN (j8 p b l i).2/\oE (j8 p b l i).2
 |0,_,_=>anl p b
 |i+1,hi,h=>by
  obtain⟨e,E⟩:=an0 (l:=l) hp w0 i (by omega) λj hj=>h j (by omega)
  have hT:=(alw (l:=l) hp w0 (xm _) i (by omega)).sm
  have h0:(da p b (j8 p b l i).1 (l.getD i 0)).2.2=0:=h i (by omega)
  rw[e]at h0
  obtain⟨_,q2,q3⟩:=an8 hp hT E h0
  have e1:(j8 p b l (i+1)).1=(da p b (j8 p b l i).1 (l.getD i 0)).1:=rfl
  rw[e1,an5,e]
  split
  . rename_i hk
    exact(q2 hk).2
  . rename_i hk
    exact q3 hk
theorem aoe (hp:bI p) (w0:mz (zp p b).1 0 399000):am4 p b l where
 ok i hi run h:=by
  obtain⟨e,E⟩:=an0 (l:=l) hp w0 i hi run
  have hT:=(alw (l:=l) hp w0 (xm _) i hi).sm
  have h0:(da p b (j8 p b l i).1 (l.getD i 0)).2.2=0:=h
  rw[e]at h0 ⊢
  obtain⟨q1,q2,_⟩:=an8 hp hT E h0
  exact⟨q1,λhk=>(q2 hk).1⟩
 fin i hi run:=by
  obtain⟨e,E⟩:=an0 (l:=l) hp w0 i hi run
  refine⟨e, ?_⟩
  unfold ib
  rw[yu]
  intro x hx
  obtain⟨j,hj,rfl⟩:=yq hx
  have :=alv E j
  rw[x7,xe hj]at this
  have this:(j8 p b l i).2.ae[j].entries=[]:=this
  rw[this];rfl
end
end Go.Proofs.S25
