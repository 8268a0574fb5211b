import Derived.Test.YtcfagpelpjdmaaaGreatDoorXzc
namespace Go.Proofs.S25
open Go Go.AV
open Go.IntKind renaming i64 -> j6
open Go.AV.Shape (leaf)
noncomputable section
theorem z1hk {p:PProg} {b:Int} {t:Thr} {s e:Int} (h:Formed p b t):Formed p b (endT t s e):=⟨h.id,h.fn,h.pc,h.regs,h.steps,h.kids,h.deep,h.ris,h.held,h.ph⟩
theorem z1hs {p:PProg} {b:Int} {t:Thr} (F:Formed p b t) (hs:t.status=2) (hf:t.fault=0) (h0:t.phase=0) (h:atB p t=false∨(atI p t).op=7):valT p b t=true:=by
 unfold valT vFin
 rw[z61.2 F,if_neg (by omega),if_pos hs,hf,h0]
 rcases h with h |h<;>simp[h]
theorem z1hl {p:PProg} {b:Int} {t:Thr} (F:Formed p b t) (hs:t.status=3) (h:zdh p t=true):valT p b t=true:=by
 unfold valT
 rw[z61.2 F,if_neg (by omega),if_neg (by omega),if_pos hs,h];rfl
theorem z1i6 {p:PProg} {b:Int} {t:Thr} (F:Formed p b t) (hs:t.status=1∨t.status=4) (h:vRun p b t=true):valT p b t=true:=by
 unfold valT
 rw[z61.2 F,if_pos hs,h];rfl
theorem z1il {t:Thr} {i:Inst} (h:obsE t i≠0):t.phase=0/\(obsE t i=27∨obsE t i=28):=by
 unfold obsE at h ⊢
 split at h
 . exact absurd rfl h
 . rename_i h0
   rw[if_neg h0]
   refine⟨by omega, ?_⟩
   split at h
   . rename_i h1
     rw[if_pos h1]
     split at h
     . split at h
       . exact absurd rfl h
       . rename_i h2 h3
         rw[if_pos h2]at *
         simp[h3]
     . split at h
       . exact absurd rfl h
       . rename_i h2 h3
         simp[h2,h3]
   . rename_i h1
     rw[if_neg h1]
     split at h
     . rename_i h2
       rw[if_pos h2]
       split at h
       . exact absurd rfl h
       . rename_i h3;simp[h3]
     . exact absurd rfl h
theorem z1i7 {p:PProg} {b:Int} {t:Thr} (F:Formed p b t) (hb:1<=b) (hs:t.status=1) (hf:t.fault=0) (ha:atB p t=true) (hv:visB (atI p t).op=true):valT p b (vsT b t (atI p t))=true:=by
 unfold vsT
 split
 . rename_i ho
   obtain⟨o1,o2⟩:=z1il ho
   refine z1hl (z1hk F) rfl ?_
   unfold zdh
   show(t.phase==0&&(atB p t&&(if obsE t (atI p t)=26 then _ else if obsE t (atI p t)=29 then _ else obsE t (atI p t) !=0&&obsE t (atI p t)==obsE t (atI p t))))=true
   rw[if_neg (by omega),if_neg (by omega),o1,ha]
   simp[ho]
 . rename_i ho
   have ho:obsE t (atI p t)=0:=Decidable.not_not.1 ho
   split
   . rename_i hb'
     refine z1i6 (z1hk F) (.inr rfl) ?_
     unfold vRun
     show((0:Int)==0&&(atB p t&&(visB (atI p t).op&&(obsE t (atI p t)==0&&(((4:Int)==1&&decide (t.steps<b)) || ((4:Int)==4&&decide (1<=t.steps)))))))=true
     rw[ha,hv,ho,hb']
     simp[hb]
   . rename_i hb'
     refine z1i6 F (.inl hs) ?_
     unfold vRun
     have :=F.steps
     have :t.steps<b:=by omega
     rw[ha,hv,ho,hf,hs]
     simp[this]
theorem rng0 {p:PProg} {b:Int} {t:Thr} (F:Formed p b t) (a:Nat): -2147483648<=t.regs.getD a 0/\t.regs.getD a 0<=2147483647:=by
 by_cases h:a<t.regs.length
 . exact F.regs _ (z3o h)
 . rw[List.getD_eq_getElem?_getD,List.getElem?_eq_none (by omega)];decide
theorem z1hm {l:List Int} (h:∀ r∈l,-2147483648<=r/\r<=2147483647) (a:Int) {v:Int} (hv: -2147483648<=v/\v<=2147483647):∀ r∈setR l a v,-2147483648<=r/\r<=2147483647:=fun r hr=>by
 rcases List.mem_or_eq_of_mem_set hr with h1 |h1
 . exact h r h1
 . rw[h1];exact hv
theorem z1hn {p:PProg} {b:Int} {t:Thr} (F:Formed p b t) (h0:t.phase=0) {l:List Int} {n:Int} (hl:∀ r∈l,-2147483648<=r/\r<=2147483647) (hn:0<=n/\n<=((p.funs.getD t.fn.toNat c0f).code.length:Int)):Formed p b {t with regs:=l,pc:=n}:=
 ⟨F.id,F.fn,hn,hl,F.steps,F.kids,F.deep,F.ris,F.held, .inl h0⟩
theorem z1ie {p:PProg} {b:Int} {t:Thr} (hp:POk p) (W:TWf p t) (F:Formed p b t) (h0:t.phase=0) (hs:t.status=1) (hf:t.fault=0) (ha:atB p t=true) (hv:visB (atI p t).op=false):
 ((locP t (atI p t)).2=true/\Formed p b (locP t (atI p t)).1/\(locP t (atI p t)).1.phase=0/\(locP t (atI p t)).1.status=1/\(locP t (atI p t)).1.fault=0)∨((locP t (atI p t)).2=false/\valT p b (locP t (atI p t)).1=true):=by
 have hc:=zav hp W ha
 obtain⟨c1,c2,c3⟩:=z7d hc
 have hpc:=(za6 W ha).1
 have h4:=F.pc
 have nx:0<=t.pc+1/\t.pc+1<=((p.funs.getD t.fn.toNat c0f).code.length:Int):=by omega
 unfold locP
 split
 . rename_i h;exact .inl ⟨rfl,z1hn F h0 (z1hm F.regs _ ((zj1 c1).2.2.1 h)) nx,h0,hs,hf⟩
 split
 . exact .inl ⟨rfl,z1hn F h0 (z1hm F.regs _ (rng0 F _)) nx,h0,hs,hf⟩
 split
 . split
   . exact .inl ⟨rfl,z1hn F h0 (z1hm F.regs _ (z1ic _ _ _)) nx,h0,hs,hf⟩
   . exact .inl ⟨rfl,z1hn F h0 F.regs nx,h0,hs,hf⟩
 split
 . rename_i h
   refine .inl ⟨rfl,z1hn F h0 F.regs ?_,h0,hs,hf⟩
   split
   . exact nx
   . exact c3 (.inr h)
 split
 . rename_i h;exact .inl ⟨rfl,z1hn F h0 F.regs (c3 (.inl h)),h0,hs,hf⟩
 split
 . rename_i h
   split
   . rename_i hr
     refine .inr ⟨rfl,z1hl (z1hk F) rfl ?_⟩
     unfold zdh
     show(t.phase==0&&(atB p t&&(if(26:Int)=26 then(atI p t).op==6&&regT t (atI p t).b==0 else _)))=true
     rw[if_pos rfl,h0,ha,h,hr];rfl
   . exact .inl ⟨rfl,z1hn F h0 F.regs nx,h0,hs,hf⟩
 split
 . rename_i h
   exact .inr ⟨rfl,z1hs (z1hk F) rfl rfl h0 (.inr h)⟩
 . exact .inl ⟨rfl,z1hn F h0 F.regs nx,h0,hs,hf⟩
theorem z1ht {p:PProg} {b:Int} (hp:POk p) (hb:1<=b):∀ (k:Nat) (t:Thr),TWf p t ->Formed p b t ->t.status=1 ->t.fault=0 ->valT p b (z4q p b k t)=true:=by
 have one:∀ (t:Thr),Formed p b t ->atB p t=false ->valT p b (endT t 2 0)=true:=fun t F ha=>by
  refine z1hs (z1hk F) rfl rfl ?_ (.inl ha)
  rcases F.ph with h |h
  . exact h
  . rw[ha]at h;exact absurd h.2.1 (by decide)
 have ph:∀ (t:Thr),Formed p b t ->visB (atI p t).op=false ->t.phase=0:=fun t F hv=>by
  rcases F.ph with h |h
  . exact h
  . rw[h.2.2.1]at hv;exact absurd hv (by decide)
 intro k
 induction k with
 |zero=>
  intro t W F hs hf
  cases ha:atB p t with
  |false=>rw[z164 ha];exact one t F ha
  |true=>
   cases hv:visB (atI p t).op with
   |true=>rw[zmz ha hv];exact z1i7 F hb hs hf ha hv
   |false=>
    rw[s_0 ha hv]
    refine z1hl (z1hk F) rfl ?_
    unfold zdh
    show(t.phase==0&&(atB p t&&(if(29:Int)=26 then _ else if(29:Int)=29 then !visB (atI p t).op else _)))=true
    rw[if_neg (by decide),if_pos rfl,ph t F hv,ha,hv];rfl
 |succ k ih=>
  intro t W F hs hf
  cases ha:atB p t with
  |false=>rw[z164 ha];exact one t F ha
  |true=>
   cases hv:visB (atI p t).op with
   |true=>rw[zmz ha hv];exact z1i7 F hb hs hf ha hv
   |false=>
    rw[s_s ha hv]
    rcases z1ie hp W F (ph t F hv) hs hf ha hv with⟨e,f1,f2,f3,f4⟩ | ⟨e,f1⟩
    . rw[if_pos e];exact ih _ (zpl hp W ha) f1 f3 f4
    . rw[if_neg (by rw[e];simp)];exact f1
theorem z1hu {p:PProg} {b:Int} {t:Thr} (F:Formed p b t) (i:Inst) {r:Int} (hr:wr r=r):∀ x∈(wrote t i r).regs,-2147483648<=x/\x<=2147483647:=by
 unfold wrote
 dsimp only
 split
 . exact z1hm F.regs _ (z60.1 hr)
 . exact F.regs
theorem z1if {p:PProg} {b:Int} {t:Thr} {r:Int} (hp:POk p) (ht:TOK t) (h:valT p b t=true) (hs:t.status=1) (hr:wr r=r):Formed p b (z14 t (atI p t) r):=by
 have F:=z3n h
 have W:=F.wf ht
 obtain⟨_,ha,hv,ho,hst⟩:=z6k h hs
 have hc:=zav hp W ha
 obtain⟨c1,c2,_⟩:=z7d hc
 have hpc:=(za6 W ha).1
 have h4:=F.pc
 have h5:=F.steps
 have R:=z1hu F (atI p t) hr
 have nx:0<=t.pc+1/\t.pc+1<=((p.funs.getD t.fn.toNat c0f).code.length:Int):=by omega
 have st:0<=t.steps+1/\t.steps+1<=b:=by omega
 have p0:(atI p t).op≠18 ->t.phase=0:=fun h=>by
  rcases F.ph with q |q
  . exact q
  . exact absurd q.2.2.1 h
 have aH:∀ (l:List Int) (v:Int),(0<=v/\v<p.muts.length) ->(∀ m∈l,0<=m/\m<(p.muts.length:Int)) ->Ris l ->∀ m∈addI l v,0<=m/\m<(p.muts.length:Int):=fun l v hv hl hr m hm=>by
  rcases(zth hr v m).1 hm with q |q
  . exact hl m q
  . rw[q];exact hv
 have rH:∀ (l:List Int) (v:Int),(∀ m∈l,0<=m/\m<(p.muts.length:Int)) ->∀ m∈remI l v,0<=m/\m<(p.muts.length:Int):=fun l v hl m hm=>hl m (z114.1 hm).1
 have c18:(atI p t).op=18 ->0<=(atI p t).n/\(atI p t).n<p.muts.length:=fun h=>by
  unfold z5d at c2
  simp only[h,beq_self_eq_true,Bool.true_and,Bool.or_eq_false_iff,decide_eq_false_iff_not]at c2
  omega
 have c15:((atI p t).op=15∨(atI p t).op=16∨(atI p t).op=17) ->0<=(atI p t).obj/\(atI p t).obj<p.muts.length:=fun h=>by
  have e:z4n p (atI p t).op=p.muts.length:=by unfold z4n;rw[if_neg (by omega),if_pos h]
  unfold z5d at c2
  rw[e]at c2
  simp only[Bool.or_eq_false_iff,Bool.and_eq_false_iff,decide_eq_false_iff_not]at c2
  omega
 unfold z14
 split
 . rename_i h18
   have n1:=c18 h18
   unfold z2f
   split
   . exact⟨F.id,F.fn,F.pc,R,st,F.kids,F.deep,z115 _ _,rH _ _ F.held, .inr ⟨.inl rfl,ha,h18,fun q=>(z114.1 q).2 rfl⟩⟩
   . rename_i q0
     have q0:t.phase≠0:=q0
     have q1:(atI p t).n∉t.held:=by
      rcases F.ph with q |q
      . exact absurd q q0
      . exact q.2.2.2
     split
     . exact⟨F.id,F.fn,F.pc,R,st,F.kids,F.deep,F.ris,F.held, .inr ⟨.inr rfl,ha,h18,q1⟩⟩
     . exact⟨F.id,F.fn,nx,R,st,F.kids,F.deep,z113 _ _,aH _ _ n1 F.held F.ris, .inl rfl⟩
 . rename_i h18
   have z:=p0 h18
   split
   . rename_i q
     exact⟨F.id,F.fn,nx,R,st,F.kids,F.deep,z113 _ _,aH _ _ (c15 (by omega)) F.held F.ris, .inl z⟩
   . split
     . exact⟨F.id,F.fn,nx,R,st,F.kids,F.deep,z115 _ _,rH _ _ F.held, .inl z⟩
     . split
       . rename_i h21
         have hb:chB2 t=true:=by
          unfold obsE at ho
          rw[if_neg (by omega),if_neg (by omega),if_pos h21]at ho
          cases hx:chB2 t with
          |true=>rfl
          |false=>rw[hx]at ho;exact absurd ho (by decide)
         unfold chB2 at hb
         simp only[Bool.not_eq_true',Bool.or_eq_false_iff,decide_eq_false_iff_not,beq_eq_false_iff_ne]at hb
         have hk:=F.kids
         exact⟨F.id,F.fn,nx,R,st,by show 0<=t.kids+1/\t.kids+1<=7;omega,fun q=>absurd q hb.1.1.2,F.ris,F.held, .inl z⟩
       . exact⟨F.id,F.fn,nx,R,st,F.kids,F.deep,F.ris,F.held, .inl z⟩
theorem z1i1 {p:PProg} {b:Int} {t:Thr} {r:Int} (hp:PSm p) (ht:TOK t) (h:z2x p b t=true) (hs:t.status=1) (hr:wr r=r):z2x p b (z15 p b t r).1=true/\(z15 p b t r).2=0/\(z15 p b t r).1=setl p b (z14 t (atI p t) r):=by
 obtain⟨a,c⟩:=z26.1 h
 obtain⟨o1,o2,_⟩:=z48 a
 have hp:POk p:=⟨hp,o1⟩
 have e:z15 p b t r=(setl p b (z14 t (atI p t) r),0):=by
  unfold z15
  rw[if_neg (by simp[a]),if_neg (by simp[c]),if_neg (by simp[hs]),if_neg (by simp[hr])]
 rw[e]
 have q:=zcx t (atI p t) r
 refine⟨z26.2 ⟨a,z1ht hp o2 256 _ (zj7 hp ht c hs r) (z1if hp ht c hs hr) (by rw[q.2.2.2.2.2.1];exact hs) (by rw[q.2.2.1];exact(z6k c hs).1)⟩,rfl,rfl⟩
theorem z1i2 {p:PProg} {b:Int} {t:Thr} {r:Int} (h:z2x p b t=true) (hs:t.status=1) (hr:wr r=r):(z15 p b t r).1.id=t.id/\(z15 p b t r).1.steps=t.steps+1:=by
 obtain⟨a,c⟩:=z26.1 h
 have e:z15 p b t r=(setl p b (z14 t (atI p t) r),0):=by
  unfold z15
  rw[if_neg (by simp[a]),if_neg (by simp[c]),if_neg (by simp[hs]),if_neg (by simp[hr])]
 rw[e]
 have q:=zcx t (atI p t) r
 have st:∀ (k:Nat) (t:Thr),(z4q p b k t).steps=t.steps:=fun k=>by
  have lo:∀ (t:Thr) (i:Inst),(locP t i).1.steps=t.steps:=fun t i=>by
   unfold locP;repeat' split
   all_goals rfl
  have vs:∀ (t:Thr) (i:Inst),(vsT b t i).steps=t.steps:=fun t i=>by
   unfold vsT;repeat' split
   all_goals rfl
  induction k with
  |zero=>intro t;unfold z4q;repeat' split
         all_goals first |rfl |exact vs _ _
  |succ k ih=>intro t;unfold z4q;repeat' split
              all_goals first |rfl |exact vs _ _ |exact(ih _).trans (lo _ _) |exact lo _ _
 exact⟨(zbh p b 256 _).trans q.1,(st 256 _).trans q.2.2.2.2.1⟩
def spW (p:PProg) (b:Int) (s:SState) (a:Int):SState×Int:=if(stE p s a).kind=16 then z1h p b {s with mem:=(stX p s a).1} (stE p s a).obj (stI p s a).obj (regD (stT p s a) (stI p s a).b)else({s with mem:=(stX p s a).1},0)
theorem z1ip {p:PProg} {b:Int} {s:SState} {a:Int} (h0:(z1i p b s a).2.2=0):
 stdE p b=0/\valS p b s=true/\(runS p s a).2.2=true/\z20 s (stT p s a) (stI p s a)=true/\(stX p s a).2.2=0/\(spW p b s a).2=0/\(stN p b s a).2=0/\
  z1i p b s a=({(spW p b s a).1 with thr:=(spW p b s a).1.thr.set (fid (spW p b s a).1.thr a).toNat (stN p b s a).1},stE p s a,0):=by
 have ld:z1i p b s a=
  if stdE p b≠0 then(c0st,c0ev,stdE p b)else if valS p b s=false then(c0st,c0ev,1)else if(runS p s a).2.2=false∨z20 s (stT p s a) (stI p s a)=false then(c0st,c0ev,19)else if(stX p s a).2.2≠0 then(c0st,c0ev,30)
  else if(spW p b s a).2≠0 then(c0st,c0ev,(spW p b s a).2)else if(stN p b s a).2≠0 then(c0st,c0ev,(stN p b s a).2)else({(spW p b s a).1 with thr:=(spW p b s a).1.thr.set (fid (spW p b s a).1.thr a).toNat (stN p b s a).1},stE p s a,0):=rfl
 rw[ld]at h0 ⊢
 split at h0
 . rename_i h;exact absurd h0 h
 rename_i h1
 split at h0
 . exact absurd h0 (by decide)
 rename_i h2
 split at h0
 . exact absurd h0 (by decide)
 rename_i h3
 split at h0
 . exact absurd h0 (by decide)
 rename_i h4
 split at h0
 . rename_i h;exact absurd h0 h
 rename_i h5
 split at h0
 . rename_i h;exact absurd h0 h
 rename_i h6
 rw[if_neg h1,if_neg h2,if_neg h3,if_neg h4,if_neg h5,if_neg h6]
 refine⟨Decidable.not_not.1 h1,by simpa using h2, ?_, ?_,Decidable.not_not.1 h4,Decidable.not_not.1 h5,Decidable.not_not.1 h6,rfl⟩
 . cases h:(runS p s a).2.2 with
   |true=>rfl
   |false=>exact absurd (.inl h) h3
 . cases h:z20 s (stT p s a) (stI p s a)with
   |true=>rfl
   |false=>exact absurd (.inr h) h3
structure Emp (t:SState):Prop where
 len:t.bufs.length=t.thr.length
 buf:∀ j,j<t.thr.length ->(t.bufs.getD j c0b).thread=(t.thr.getD j c0t).id/\(t.bufs.getD j c0b).entries=[]/\0<=(t.bufs.getD j c0b).first/\((t.bufs.getD j c0b).first=0∨(t.bufs.getD j c0b).first<=(t.thr.getD j c0t).steps)
theorem z1hw {p:PProg} {b:Int} {t:SState} (E:Emp t) (h:valS p b (scS t)=true):z1l p b t=true:=by
 obtain⟨h1,_,h3⟩:=z3p.1 h
 refine z12.2 ⟨h1,E.len,fun j hj=>⟨h3 j hj,z2o.2 ?_⟩⟩
 obtain⟨b1,b2,b3,b4⟩:=E.buf j hj
 obtain⟨a,c⟩:=z26.1 (h3 j hj).1
 have F:=z3n c
 have st:0<=(t.thr.getD j c0t).steps/\(t.thr.getD j c0t).steps<=b:=F.steps
 have id:0<=(t.thr.getD j c0t).id/\_:=z6j F.id
 have hb:=(z48 a).2
 refine⟨(z21 _).2 ⟨⟨by rw[b1];exact id.1,b3,by omega,by rw[b2];show _+((0:Nat):Int)<=_;omega⟩,fun i hi=>?_⟩,b1,fun i hi=>?_⟩
 . rw[b2]at hi;exact absurd hi (Nat.not_lt_zero _)
 . rw[b2]at hi;exact absurd hi (Nat.not_lt_zero _)
theorem z1hq (l:List Buf) (id:Int):∀ n,n<=l.length ->0<=fibR l id n ->(fibR l id n).toNat<l.length/\(l.getD (fibR l id n).toNat c0b).thread=id
 |0,_,h=>absurd h (by show ¬ (0:Int)<= -1;decide)
 |k+1,hk,h=>by
  unfold fibR at h ⊢
  split
  . rename_i e
    rw[Int.toNat_natCast]
    exact⟨by omega,e⟩
  . rename_i e
    rw[if_neg e]at h
    exact z1hq l id k (by omega) h
theorem z1i4 {p:PProg} {b:Int} {s:SState} {a:Int} (hs:stdE p b=0) (hv:z1l p b s=true) (hh:hasI (agsT p s) a=true):
 zt p b s a=if ownK (zu p s a).1 then
  (if(z1t p b s (fid s.thr (thrE a)).toNat (zu p s a).1).2≠0 then(c0st,c0ev,(z1t p b s (fid s.thr (thrE a)).toNat (zu p s a).1).2)else((z1t p b s (fid s.thr (thrE a)).toNat (zu p s a).1).1,(zu p s a).1,0))
 else z1v p b s a:=by
 obtain⟨a1,a2,a3⟩:=z48 hs
 unfold zt
 rw[if_neg (by simp[a1]),if_neg (by omega),if_neg (by simp[hv]),if_neg (by simp[hh])]
theorem z1i5 {p:PProg} {b:Int} {t:Thr} {r:Int} (h:(z15 p b t r).2=0):z2x p b t=true/\t.status=1/\wr r=r:=by
 unfold z15 at h
 split at h
 . rename_i q;exact absurd h q
 . rename_i q0
   split at h
   . exact absurd h (by decide)
   . rename_i q1
     split at h
     . exact absurd h (by decide)
     . rename_i q2
       split at h
       . exact absurd h (by decide)
       . rename_i q3
         exact⟨z26.2 ⟨Decidable.not_not.1 q0,by simpa using q1⟩,Decidable.not_not.1 q2,Decidable.not_not.1 q3⟩
theorem gS {α:Type} {l:List α} {k:Nat} {x d:α} (h:k<l.length):(l.set k x).getD k d=x:=by
 rw[List.getD_eq_getElem?_getD,List.getElem?_set_self h];rfl
theorem gN {α:Type} {l:List α} {k j:Nat} {x d:α} (h:k≠j):(l.set k x).getD j d=l.getD j d:=by
 rw[List.getD_eq_getElem?_getD,List.getElem?_set_ne h,<- List.getD_eq_getElem?_getD]
structure StF (p:PProg) (b:Int) (t:SState) (a:Int) (k:Nat) (r:Int):Prop where
 std:stdE p b=0
 val:valS p b (scS t)=true
 vts:z1l p b t=true
 has:hasI (agsT p t) a=true
 a0:0<=a
 fid:fid t.thr a=(k:Int)
 lt:k<t.thr.length
 id:(t.thr.getD k c0t).id=a
 run:(runS p (scS t) a).2.2=true
 sT:stT p (scS t) a=t.thr.getD k c0t
 sI:stI p (scS t) a=zg p (t.thr.getD k c0t)
 pend:z1b p (t.thr.getD k c0t)=true
 read:(stX p (scS t) a).2.1=r
 vt:z2x p b (t.thr.getD k c0t)=true
 st:(t.thr.getD k c0t).status=1
 wr:wr r=r
 x0:(stX p (scS t) a).2.2=0
 sp0:(spW p b (scS t) a).2=0
 eq:z1i p b (scS t) a=({(spW p b (scS t) a).1 with thr:=(spW p b (scS t) a).1.thr.set (Go.Proofs.S25.fid (spW p b (scS t) a).1.thr a).toNat (z15 p b (t.thr.getD k c0t) r).1},stE p (scS t) a,0)
 cv:z2x p b (z15 p b (t.thr.getD k c0t) r).1=true
 c0:(z15 p b (t.thr.getD k c0t) r).2=0
 cid:(z15 p b (t.thr.getD k c0t) r).1.id=(t.thr.getD k c0t).id
 cst:(z15 p b (t.thr.getD k c0t) r).1.steps=(t.thr.getD k c0t).steps+1
theorem z1ik {p:PProg} {b id fn arg:Int} (h:(newT p b id fn arg).2=0):(newT p b id fn arg).1.id=id:=by
 unfold newT at h ⊢
 split at h
 . rename_i q;exact absurd h q
 . split at h
   . exact absurd h (by decide)
   . split at h
     . exact absurd h (by decide)
     . split at h
       . exact absurd h (by decide)
       . rename_i q0 q1 q2 q3
         rw[if_neg q0,if_neg q1,if_neg q2,if_neg q3]
         exact zbh p b 256 _
theorem z1iz (p:PProg) (b:Int):(zj p b).1=scS (zp p b).1/\Emp (zp p b).1:=by
 unfold zp
 split
 . rename_i h
   have e:zj p b=(c0st,stdE p b):=by unfold zj;rw[if_pos h]
   rw[e]
   exact⟨rfl,rfl,fun j hj=>absurd hj (Nat.not_lt_zero _)⟩
 . rename_i h
   have e:zj p b=(⟨z1p p b p.thr.length,(newM p).1,[]⟩,0):=by unfold zj;rw[if_neg h]
   rw[e]
   refine⟨rfl,z5n _ _ _ (Nat.le_refl _),fun j hj=>?_⟩
   have hj:j<(z1p p b p.thr.length).length:=hj
   have q:(zd4 ⟨z1p p b p.thr.length,(newM p).1,[]⟩ []).bufs.getD j c0b=zfr [] ((z1p p b p.thr.length).getD j c0t).id:=z9l _ _ _ (Nat.le_refl _) j hj
   rw[q]
   have f:fib ([]:List Buf) ((z1p p b p.thr.length).getD j c0t).id= -1:=rfl
   unfold zfr
   rw[f,if_neg (by decide)]
   exact⟨rfl,rfl,Int.le_refl _, .inl rfl⟩
theorem z1jc (n:Nat):∀ (l:List (List Int)) (c:Nat),c<l.length ->l.flatten.Perm ((l.getD c []).take n++(l.set c ((l.getD c []).drop n)).flatten)
 |q::l,0,_=>by
  show(q++l.flatten).Perm (q.take n++(q.drop n++l.flatten))
  rw[<- List.append_assoc,List.take_append_drop]
 |q::l,c+1,h=>by
  have ih:=z1jc n l c (by simpa using h)
  show(q++l.flatten).Perm ((l.getD c []).take n++(q++(l.set c ((l.getD c []).drop n)).flatten))
  refine(List.Perm.append_left q ih).trans ?_
  rw[<- List.append_assoc,<- List.append_assoc]
  exact List.Perm.append_right _ List.perm_append_comm
theorem z1j8 (v:Int):∀ (l:List (List Int)) (c:Nat),c<l.length ->(l.set c (l.getD c []++[v])).flatten.Perm (v::l.flatten)
 |q::l,0,_=>by
  show(q++[v]++l.flatten).Perm (v::(q++l.flatten))
  rw[List.append_assoc]
  exact List.perm_middle
 |q::l,c+1,h=>by
  have ih:=z1j8 v l c (by simpa using h)
  show(q++(l.set c (l.getD c []++[v])).flatten).Perm (v::(q++l.flatten))
  exact(List.Perm.append_left q ih).trans List.perm_middle
theorem z1j9 {m:Mem} {x v:Int} (F:MForm m) (h:(zr m x v).2=0):MForm (zr m x v).1/\(zr m x v).1.vars.length=m.vars.length/\(zr m x v).1.owners.length=m.owners.length/\(zr m x v).1.queues.length=m.queues.length:=by
 unfold zr at h ⊢
 split at h
 . rename_i q;exact absurd h q
 . rename_i q
   split at h
   . exact absurd h (by decide)
   . rename_i q2
     rw[if_neg q,if_neg q2]
     refine⟨⟨by show(m.vars.set _ _).length<=8;rw[List.length_set];exact F.vars,F.owners,F.queues,F.ris,fun y hy=>?_,F.own,F.pos,F.nd⟩,List.length_set,rfl,rfl⟩
     rcases List.mem_or_eq_of_mem_set hy with h1 |h1
     . exact F.vals y h1
     . rw[h1];omega
theorem z1j4 {m:Mem} {i id fr to:Int} (F:MForm m) (ht: -1<=to) (h:(ownM m i id fr to).2=0):MForm (ownM m i id fr to).1/\(ownM m i id fr to).1.vars.length=m.vars.length/\(ownM m i id fr to).1.owners.length=m.owners.length/\(ownM m i id fr to).1.queues.length=m.queues.length:=by
 unfold ownM at h ⊢
 split at h
 . rename_i q;exact absurd h q
 . rename_i q
   split at h
   . exact absurd h (by decide)
   . rename_i q2
     split at h
     . exact absurd h (by decide)
     . rename_i q3
       rw[if_neg q,if_neg q2,if_neg q3]
       refine⟨⟨F.vars,by show(m.owners.set _ _).length<=4;rw[List.length_set];exact F.owners,F.queues,F.ris,F.vals,fun y hy=>?_,F.pos,F.nd⟩,rfl,List.length_set,rfl⟩
       rcases List.mem_or_eq_of_mem_set hy with h1 |h1
       . exact F.own y h1
       . rw[h1];exact ht
theorem z1k5 {m:Mem} {i n:Int} (h:insE m i n=0):0<=i/\i<n:=by
 unfold insE at h
 split at h
 . exact absurd h (by decide)
 . split at h
   . exact absurd h (by decide)
   . omega
theorem z1jz {m:Mem} {c id:Int} (F:MForm m) (h:(enqM m c id).2=0):MForm (enqM m c id).1/\(enqM m c id).1.vars.length=m.vars.length/\(enqM m c id).1.owners.length=m.owners.length/\(enqM m c id).1.queues.length=m.queues.length:=by
 unfold enqM at h ⊢
 split at h
 . rename_i q;exact absurd h q
 . rename_i q
   split at h
   . exact absurd h (by decide)
   . rename_i q2
     split at h
     . exact absurd h (by decide)
     . rename_i q3
       rw[if_neg q,if_neg q2,if_neg q3]
       have hc:=z1k5 (Decidable.not_not.1 q)
       have P:(allI {m with queues:=m.queues.set c.toNat (m.queues.getD c.toNat []++[id])}).Perm (id::allI m):=by
        show(m.sig++(m.queues.set c.toNat (m.queues.getD c.toNat []++[id])).flatten).Perm (id::(m.sig++m.queues.flatten))
        exact(List.Perm.append_left _ (z1j8 id m.queues c.toNat (by omega))).trans List.perm_middle
       have hn:id∉allI m:=fun hm=>q3 (by
        unfold z5b
        rw[Bool.or_eq_true,List.any_eq_true]
        rcases List.mem_append.1 hm with h1 |h1
        . exact .inr (zcu.2 h1)
        . obtain⟨l,h2,h3⟩:=List.mem_flatten.1 h1
          exact .inl ⟨l,h2,zcu.2 h3⟩)
       refine⟨⟨F.vars,F.owners,by show(m.queues.set _ _).length<=4;rw[List.length_set];exact F.queues,F.ris,F.vals,F.own,fun y hy=>?_,P.nodup_iff.2 (List.nodup_cons.2 ⟨hn,F.nd⟩)⟩,rfl,rfl,List.length_set⟩
       rcases List.mem_cons.1 (P.mem_iff.1 hy)with h1 |h1
       . rw[h1];omega
       . exact F.pos y h1
theorem z1kp {l:List Int} (h:Ris l):l.Nodup:=List.Pairwise.imp (fun h=>Int.ne_of_lt h) h
theorem z1jl {m:Mem} {id:Int} (F:MForm m) (h:(z1s m id).2=0):MForm (z1s m id).1/\(z1s m id).1.vars.length=m.vars.length/\(z1s m id).1.owners.length=m.owners.length/\(z1s m id).1.queues.length=m.queues.length:=by
 unfold z1s at h ⊢
 split at h
 . exact absurd h (by decide)
 . rename_i q
   split at h
   . exact absurd h (by decide)
   . rename_i q2
     rw[if_neg q,if_neg q2]
     have hs:(remI m.sig id).Sublist m.sig:=by
      have :(remI m.sig id).Sublist (setI m.sig):=List.filter_sublist
      rwa [zmy F.ris]at this
     have hs2:(allI {m with sig:=remI m.sig id}).Sublist (allI m):=List.Sublist.append hs (List.Sublist.refl _)
     exact⟨⟨F.vars,F.owners,F.queues,z115 _ _,F.vals,F.own,fun y hy=>F.pos y (hs2.subset hy),List.Sublist.nodup hs2 F.nd⟩,rfl,rfl,rfl⟩
theorem z1jm {m:Mem} {c n:Nat} (F:MForm m) (hc:c<m.queues.length):MForm (zdi m c n):=by
 have P:=z1jc n m.queues c hc
 have P2:(allI m).Perm ((m.sig++(m.queues.getD c []).take n)++(m.queues.set c ((m.queues.getD c []).drop n)).flatten):=by
  rw[List.append_assoc]
  exact List.Perm.append_left _ P
 have e:(zdi m c n).sig=setI (m.sig++(m.queues.getD c []).take n):=zlz _ _ F.ris
 have nd:=P2.nodup_iff.1 F.nd
 rw[List.nodup_append]at nd
 obtain⟨n1,n2,n3⟩:=nd
 have al:allI (zdi m c n)=setI (m.sig++(m.queues.getD c []).take n)++(m.queues.set c ((m.queues.getD c []).drop n)).flatten:=by
  unfold allI;rw[e];rfl
 refine⟨F.vars,F.owners,by show(m.queues.set _ _).length<=4;rw[List.length_set];exact F.queues,by rw[e];exact z5t _,F.vals,F.own,fun y hy=>?_, ?_⟩
 . rw[al]at hy
   refine F.pos y (P2.mem_iff.2 ?_)
   rcases List.mem_append.1 hy with h |h
   . exact List.mem_append.2 (.inl (z59.1 h))
   . exact List.mem_append.2 (.inr h)
 . rw[al,List.nodup_append]
   exact⟨z1kp (z5t _),n2,fun x hx y hy=>n3 x (z59.1 hx) y hy⟩
theorem z1je {m:Mem} {c k:Int} (F:MForm m) (h:(zi m c k).2.2=0):MForm (zi m c k).1/\(zi m c k).1.vars.length=m.vars.length/\(zi m c k).1.owners.length=m.owners.length/\(zi m c k).1.queues.length=m.queues.length:=by
 unfold zi at h ⊢
 split at h
 . rename_i q;exact absurd h q
 . rename_i q
   rw[if_neg q]
   have hc:=z1k5 (Decidable.not_not.1 q)
   exact⟨z1jm F (by omega),rfl,rfl,List.length_set⟩
def z1kq (m n:Mem):Prop:=n.vars.length=m.vars.length/\n.owners.length=m.owners.length/\n.queues.length=m.queues.length
theorem z1k0 {m:Mem} {t:Thr} {i:Inst} {e:Ev} (F:MForm m) (ht:0<=t.id) (h:(effM m t i e).2.2=0):MForm (effM m t i e).1/\z1kq m (effM m t i e).1:=by
 have z:MForm m/\z1kq m m:=⟨F,rfl,rfl,rfl⟩
 unfold effM at h ⊢
 split at h
 . rename_i q;rw[if_pos q];exact z1j9 F h
 rename_i q1
 split at h
 . rename_i q;rw[if_neg q1,if_pos q];exact z1j9 F h
 rename_i q2
 split at h
 . rename_i q;rw[if_neg q1,if_neg q2,if_pos q];exact z
 rename_i q3
 split at h
 . rename_i q
   rw[if_neg q1,if_neg q2,if_neg q3,if_pos q]
   split at h
   . rename_i q';rw[if_pos q'];exact z
   . rename_i q';rw[if_neg q'];exact z1j4 F (by omega) h
 rename_i q4
 split at h
 . rename_i q;rw[if_neg q1,if_neg q2,if_neg q3,if_neg q4,if_pos q];exact z1j4 F (by omega) h
 rename_i q5
 split at h
 . rename_i q;rw[if_neg q1,if_neg q2,if_neg q3,if_neg q4,if_neg q5,if_pos q];exact z1j4 F (by omega) h
 rename_i q6
 split at h
 . rename_i q
   rw[if_neg q1,if_neg q2,if_neg q3,if_neg q4,if_neg q5,if_neg q6,if_pos q]
   split at h
   . rename_i q'
     rw[if_pos q']
     obtain⟨o1,o2,o3,o4⟩:=z1j4 F (by decide:(-1:Int)<= -1) q'
     obtain⟨p1,p2,p3,p4⟩:=z1jz o1 h
     exact⟨p1,p2.trans o2,p3.trans o3,p4.trans o4⟩
   . rename_i q';exact absurd h q'
 rename_i q7
 split at h
 . rename_i q;rw[if_neg q1,if_neg q2,if_neg q3,if_neg q4,if_neg q5,if_neg q6,if_neg q7,if_pos q];exact z1jl F h
 rename_i q8
 split at h
 . rename_i q;rw[if_neg q1,if_neg q2,if_neg q3,if_neg q4,if_neg q5,if_neg q6,if_neg q7,if_neg q8,if_pos q];exact z1je F h
 rename_i q9
 split at h
 . rename_i q;rw[if_neg q1,if_neg q2,if_neg q3,if_neg q4,if_neg q5,if_neg q6,if_neg q7,if_neg q8,if_neg q9,if_pos q];exact z1je F h
 rename_i q10
 split at h
 . rename_i q;rw[if_neg q1,if_neg q2,if_neg q3,if_neg q4,if_neg q5,if_neg q6,if_neg q7,if_neg q8,if_neg q9,if_neg q10,if_pos q];exact z
 . rename_i q;rw[if_neg q1,if_neg q2,if_neg q3,if_neg q4,if_neg q5,if_neg q6,if_neg q7,if_neg q8,if_neg q9,if_neg q10,if_neg q];exact z
theorem z1j2 {p:PProg} {m:Mem}:z1f p m=true↔(zc p).1=0/\MForm m/\m.vars.length=p.vars.length/\m.owners.length=p.muts.length/\m.queues.length=p.conds.length:=by
 unfold z1f
 simp only[Bool.and_eq_true,beq_iff_eq,z47]
theorem z1kf {p:PProg} {m:Mem} {t:Thr} {i:Inst} {e:Ev} (h0:z1f p m=true) (ht:0<=t.id) (h:(effM m t i e).2.2=0):z1f p (effM m t i e).1=true:=by
 obtain⟨v1,v2,v3,v4,v5⟩:=z1j2.1 h0
 obtain⟨f1,f2,f3,f4⟩:=z1k0 v2 ht h
 exact z1j2.2 ⟨v1,f1,f2.trans v3,f3.trans v4,f4.trans v5⟩
theorem z1k6 (id:Int):∀ (l:List Thr) (j:Nat),j<posT l id ->(l.getD j c0t).id<id
 | [],j,h=>absurd h (Nat.not_lt_zero _)
 |t::l,j,h=>by
  unfold posT at h
  rw[List.takeWhile_cons]at h
  split at h
  . rename_i q
    cases j with
    |zero=>exact of_decide_eq_true q
    |succ j=>exact z1k6 id l j (Nat.lt_of_succ_lt_succ h)
  . exact absurd h (Nat.not_lt_zero _)
theorem z1k7 (id:Int):∀ (l:List Thr),posT l id<l.length ->id<=(l.getD (posT l id) c0t).id
 | [],h=>absurd h (Nat.not_lt_zero _)
 |t::l,h=>by
  unfold posT at h ⊢
  rw[List.takeWhile_cons]at h ⊢
  split at h
  . rename_i q
    rw[if_pos q]
    exact z1k7 id l (Nat.lt_of_succ_lt_succ h)
  . rename_i q
    rw[if_neg q]
    have :¬ t.id<id:=by simpa using q
    show id<=t.id
    omega
theorem z1jn {p:PProg} {b id fn arg:Int} (hp:PSm p) (h:(newT p b id fn arg).2=0):z2x p b (newT p b id fn arg).1=true:=by
 unfold newT at h ⊢
 split at h
 . rename_i q;exact absurd h q
 . split at h
   . exact absurd h (by decide)
   . split at h
     . exact absurd h (by decide)
     . split at h
       . exact absurd h (by decide)
       . rename_i q0 q1 q2 q3
         rw[if_neg q0,if_neg q1,if_neg q2,if_neg q3]
         have a:=Decidable.not_not.1 q0
         obtain⟨o1,o2,_⟩:=z48 a
         have hd:0<=depI id:=by omega
         have hi:=z6j hd
         have hw:=z60.1 (Decidable.not_not.1 q3)
         refine z26.2 ⟨a,z1ht ⟨hp,o1⟩ o2 256 _ (zfj (by omega) ⟨by omega,by omega⟩) ⟨hd,⟨?_, ?_⟩,⟨Int.le_refl _,Int.natCast_nonneg _⟩,fun r hr=>?_,⟨Int.le_refl _,by show(0:Int)<=b;omega⟩,⟨Int.le_refl _,by show(0:Int)<=7;decide⟩,fun _=>rfl,List.Pairwise.nil,fun m hm=>absurd hm (by simp[zhf]), .inl rfl⟩ rfl rfl⟩
         . show 0<=fn;omega
         . show fn<(p.funs.length:Int);omega
         . rcases List.mem_cons.1 hr with e |e
           . rw[e];exact hw
           . rw[(List.mem_replicate.1 e).2];decide
theorem z1jo {p:PProg} {b:Int} {l:List Thr} {k:Nat} {T:Thr} (V:∀ j,j<l.length ->z5e p b l j) (hv:z2x p b T=true) (hid:T.id=(l.getD k c0t).id):∀ j,j<(l.set k T).length ->z5e p b (l.set k T) j:=fun j hj=>by
 have hj:j<l.length:=by rw[List.length_set]at hj;exact hj
 have ids:∀ j,((l.set k T).getD j c0t).id=(l.getD j c0t).id:=z1id (id:=0) hid
 refine⟨?_,by rw[ids,ids];exact(V j hj).2⟩
 by_cases e:k=j
 . subst e;rw[gS hj];exact hv
 . rw[gN e];exact(V j hj).1
theorem z1kg {p:PProg} {b:Int} {l:List Thr} {T:Thr} (V:∀ j,j<l.length ->z5e p b l j) (hv:z2x p b T=true) (hn:fid l T.id<0):∀ j,j<(insT l T (posT l T.id)).length ->z5e p b (insT l T (posT l T.id)) j:=fun j hj=>by
 have hp:=z9p l T.id
 rw[z9q _ _ _ hp]at hj
 have R:=z7w V
 refine⟨?_,fun h0=>?_⟩
 . rw[z9r _ _ _ hp]
   split
   . exact(V j (by omega)).1
   . split
     . exact hv
     . exact(V (j - 1) (by omega)).1
 . rw[z9r _ _ _ hp,z9r _ _ _ hp]
   by_cases a1:j<posT l T.id
   . rw[if_pos (show j - 1<posT l T.id by omega),if_pos a1]
     exact R j (j - 1) (by omega) (by omega)
   by_cases a2:j=posT l T.id
   . rw[if_pos (show j - 1<posT l T.id by omega),if_neg a1,if_pos a2]
     exact z1k6 _ _ _ (by omega)
   by_cases a3:j - 1=posT l T.id
   . rw[if_neg (show ¬ j - 1<posT l T.id by omega),if_pos a3,if_neg a1,if_neg a2]
     have h1:=z1k7 T.id l (by omega)
     have h2:(l.getD (posT l T.id) c0t).id≠T.id:=fun e=>by
      have :=zm2 (l:=l) (k:=posT l T.id) (by omega) e
      omega
     rw[a3];omega
   . rw[if_neg (show ¬ j - 1<posT l T.id by omega),if_neg a3,if_neg a1,if_neg a2]
     exact R (j - 1) (j - 1 - 1) (by omega) (by omega)
theorem z1kr {p:PProg} {b:Int} {s:SState} {a:Int} (hp:PSm p) (V:∀ j,j<s.thr.length ->z5e p b s.thr j) (h:(spW p b s a).2=0):(spW p b s a).1.bufs=s.bufs/\(spW p b s a).1.mem=(stX p s a).1/\(∀ j,j<(spW p b s a).1.thr.length ->z5e p b (spW p b s a).1.thr j)/\(0<=fid s.thr a ->0<=fid (spW p b s a).1.thr a):=by
 unfold spW at h ⊢
 split at h
 . rename_i hk
   rw[if_pos hk]
   unfold z1h at h ⊢
   split at h
   . exact absurd h (by decide)
   . rename_i q
     split at h
     . exact absurd h (by decide)
     . rename_i q2
       rw[if_neg q,if_neg q2]
       have e:=z1ik (Decidable.not_not.1 q2)
       refine⟨rfl,rfl, ?_,fun h=>zrc _ (z9p _ _) h⟩
       have :=z1kg V (z1jn hp (Decidable.not_not.1 q2)) (by rw[e];exact Int.not_le.1 q)
       rw[e]at this
       exact this
 . rename_i hk
   rw[if_neg hk]
   exact⟨rfl,rfl,V,id⟩
theorem z1k1 {p:PProg} {b:Int} {s:SState} {a:Int} (hp:PSm p) (hT:∀ j,TOK (s.thr.getD j c0t)) (h0:(z1i p b s a).2.2=0):valS p b (z1i p b s a).1=true:=by
 obtain⟨s1,s2,s3,s4,s5,s6,s7,s8⟩:=z1ip h0
 obtain⟨v1,v2,v3⟩:=z3p.1 s2
 obtain⟨r1,r2,r3,r4⟩:=zd7 s3
 obtain⟨f1,f2⟩:=z4h r1
 have e:stN p b s a=z15 p b (s.thr.getD (fid s.thr a).toNat c0t) (stX p s a).2.1:=by unfold stN;rw[r2]
 rw[e]at s7 s8
 obtain⟨c1,c2,c3⟩:=z1i5 s7
 obtain⟨d1,_,_⟩:=z1i1 hp (hT _) c1 c2 c3
 obtain⟨i1,_⟩:=z1i2 c1 c2 c3
 obtain⟨g1,g2,g3,g4⟩:=z1kr hp v3 s6
 obtain⟨h1,h2⟩:=z4h (g4 r1)
 have id0:0<=(stT p s a).id:=by
  rw[r2]
  exact(z6j (z3n (z26.1 c1).2).id).1
 rw[s8]
 refine z3p.2 ⟨?_, ?_,z1jo g3 d1 (by rw[h2,i1];exact f2)⟩
 . show z1f p (spW p b s a).1.mem=true
   rw[g2]
   exact z1kf v1 id0 s5
 . show(spW p b s a).1.bufs.length=0
   rw[g1];exact v2
theorem z1jp {p:PProg} {b:Int} (hp:PSm p) (h:(zj p b).2=0):valS p b (zj p b).1=true:=by
 have h0:stdE p b=0:=by
  unfold zj at h
  split at h
  . exact h
  . rename_i q;exact Decidable.not_not.1 q
 obtain⟨o1,o2,o3⟩:=z48 h0
 have P:POk p:=⟨hp,o1⟩
 have e:zj p b=(⟨z1p p b p.thr.length,(newM p).1,[]⟩,0):=by unfold zj;rw[if_neg (fun h=>h h0)]
 have em:(newM p).1=⟨p.vars.map (·.init),List.replicate p.muts.length (-1),List.replicate p.conds.length [],[]⟩:=by unfold newM;rw[if_neg (fun h=>h o1)]
 have fl:∀ n:Nat,(List.replicate n ([]:List Int)).flatten=[]:=fun n=>by
  induction n with
  |zero=>rfl
  |succ n ih=>rw[List.replicate_succ,List.flatten_cons,ih];rfl
 have al:allI (⟨p.vars.map (·.init),List.replicate p.muts.length (-1),List.replicate p.conds.length [],[]⟩:Mem)=[]:=by
  unfold allI;rw[fl];rfl
 have el:∀ j,j<p.thr.length ->(newT p b (j:Int) (p.thr.getD j c0s).fn (p.thr.getD j c0s).arg).2=0:=fun j hj=>by
  obtain⟨t1,t2⟩:=P.thr.2 j hj
  have h8:=P.thr.1.2
  have hd:depI (j:Int)=0:=by
   have :j=0∨j=1∨j=2∨j=3∨j=4∨j=5∨j=6∨j=7:=by omega
   rcases this with rfl |rfl |rfl |rfl |rfl |rfl |rfl |rfl<;>decide
  unfold newT
  rw[if_neg (fun h=>h h0),if_neg (by omega),if_neg (by omega),if_neg (fun h=>h (z60.2 (z3f.1 t2)))]
 have gl:∀ j,j<p.thr.length ->(z1p p b p.thr.length).getD j c0t=(newT p b (j:Int) (p.thr.getD j c0s).fn (p.thr.getD j c0s).arg).1:=fun j hj=>by
  unfold z1p
  rw[List.getD_eq_getElem?_getD,List.getElem?_map,List.getElem?_range hj];rfl
 rw[e]
 refine z3p.2 ⟨?_,rfl,fun j hj=>?_⟩
 . show z1f p (newM p).1=true
   rw[em]
   refine z1j2.2 ⟨o1,⟨by show(p.vars.map _).length<=8;rw[List.length_map];exact P.objs.1.1,by show(List.replicate _ _).length<=4;rw[List.length_replicate];exact P.objs.1.2.1,by show(List.replicate _ _).length<=4;rw[List.length_replicate];exact P.objs.1.2.2.1,List.Pairwise.nil,fun x hx=>?_,fun x hx=>?_,fun x hx=>?_, ?_⟩,List.length_map _,List.length_replicate,List.length_replicate⟩
   . obtain⟨v,hv,rfl⟩:=List.mem_map.1 hx
     exact z3f.1 (P.objs.2 v hv)
   . rw[(List.mem_replicate.1 hx).2];decide
   . rw[al]at hx;cases hx
   . rw[al];exact List.nodup_nil
 . have hj:j<p.thr.length:=by have :j<(z1p p b p.thr.length).length:=hj;rwa [z2n]at this
   refine⟨?_,fun hj0=>?_⟩
   . show z2x p b ((z1p p b p.thr.length).getD j c0t)=true
     rw[gl j hj];exact z1jn hp (el j hj)
   . show((z1p p b p.thr.length).getD (j - 1) c0t).id<((z1p p b p.thr.length).getD j c0t).id
     rw[gl j hj,gl (j - 1) (by omega),z1ik (el j hj),z1ik (el (j - 1) (by omega))]
     omega
theorem z1k2 {p:PProg} {b:Int} (hp:PSm p) (h:(zp p b).2=0):z1l p b (zp p b).1=true:=by
 have h0:stdE p b=0:=by
  unfold zp at h
  split at h
  . exact h
  . rename_i q;exact Decidable.not_not.1 q
 have hs:(zj p b).2=0:=by unfold zj;rw[if_neg (fun h=>h h0)]
 obtain⟨e1,E⟩:=z1iz p b
 have v:=z1jp hp hs
 rw[e1]at v
 exact z1hw E v
end
end Go.Proofs.S25
