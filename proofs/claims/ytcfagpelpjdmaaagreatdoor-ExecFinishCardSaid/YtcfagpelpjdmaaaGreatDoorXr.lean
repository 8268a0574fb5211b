import Derived.Test.YtcfagpelpjdmaaaGreatDoorXq
namespace Go.Proofs.S25
open Go Go.AV
open Go.IntKind renaming i64 -> j6
open Go.AV.Shape (leaf)
noncomputable section
theorem fT' (a b c:Int) (r:List Int) (s k ph st f:Int) (h:List Int):AV.agg [AV.int .i64 a,AV.int .i64 b,AV.int .i64 c,arr8 r,AV.int .i64 s,AV.int .i64 k,AV.int .i64 ph,AV.int .i64 st,AV.int .i64 f,rowI h]=encT ⟨a,b,c,r,s,k,ph,st,f,h⟩:=rfl
theorem leP (p:PProg):AV.le [] [] (vP p) (vP p):=⟨rfl,⟨rfl,rfl,fun _ _=>rfl⟩,⟨rfl,rfl,fun _ _=>rfl⟩,⟨rfl,rfl,fun _ _=>rfl⟩,⟨rfl,rfl,fun _ _=>rfl⟩,⟨rfl,rfl,fun _ _=>rfl⟩,trivial⟩
theorem z48 {p:PProg} {b:Int} (h:stdE p b=0):(zc p).1=0/\1<=b/\b<=32:=by
 unfold stdE at h
 split at h
 . rename_i q;exact absurd h (by simpa using q)
 . rename_i q
   split at h
   . exact absurd h (by decide)
   . exact⟨by simpa using q,by omega⟩
theorem z3n {p:PProg} {b:Int} {t:Thr} (h:valT p b t=true):Formed p b t:=by
 unfold valT at h
 rw[Bool.and_eq_true]at h
 exact z61.1 h.1
theorem z6k {p:PProg} {b:Int} {t:Thr} (h:valT p b t=true) (hs:t.status=1):t.fault=0/\atB p t=true/\visB (atI p t).op=true/\obsE t (atI p t)=0/\t.steps<b:=by
 unfold valT at h
 rw[Bool.and_eq_true,if_pos (.inl hs)]at h
 have h:=h.2
 unfold vRun at h
 simp only[Bool.and_eq_true,beq_iff_eq,Bool.or_eq_true,decide_eq_true_eq]at h
 obtain⟨h1,h2,h3,h4,h5⟩:=h
 exact⟨h1,h2,h3,h4,by omega⟩
theorem z26 {p:PProg} {b:Int} {t:Thr}:z2x p b t=true↔stdE p b=0/\valT p b t=true:=by
 unfold z2x;rw[Bool.and_eq_true,beq_iff_eq]
theorem zti {i:Inst} (h:(defI i).2=true):(defI i).1=i.a/\0<=i.a/\i.a<8:=by
 unfold defI at h
 split at h
 . cases h
 . rename_i q
   have e:defI i=(i.a,true):=by unfold defI;rw[if_neg q]
   rw[e]
   have q':z1a i=0/\z1r i.op 0=true:=by simpa using q
   have :=(zcv q'.1).a q'.2
   exact⟨rfl,this⟩
theorem zfj {p:PProg} {id fn arg:Int} (hid:id<=9223372036854775807) (h:0<=fn/\fn<p.funs.length):TWf p (zhf id fn arg):=
 ⟨⟨rfl,hid,by show(0:Int)<_;omega,by show 0<=1000;omega⟩,h,by show 0<=(0:Int)/\(0:Int)<=_;omega⟩
theorem zj5 (l:List Int) (v:Int):(remI l v).length<=l.length:=Nat.le_trans (List.length_filter_le _ _) (z5s l)
theorem zj6 (l:List Int) (v:Int):(addI l v).length<=l.length+1:=by
 have h:(addI l v).length<=(l++[v]).length:=z5s _
 rw[List.length_append]at h
 exact h
theorem za7 (t:Thr) (i:Inst) (r:Int):(wrote t i r).regs.length=t.regs.length:=by
 unfold wrote setR
 dsimp only
 split
 . rw[List.length_set]
 . rfl
theorem zcx (t:Thr) (i:Inst) (r:Int):(z14 t i r).id=t.id/\(z14 t i r).fn=t.fn/\(z14 t i r).fault=t.fault/\(z14 t i r).regs=(wrote t i r).regs/\(z14 t i r).steps=t.steps+1/\(z14 t i r).status=t.status/\((z14 t i r).pc=t.pc∨(z14 t i r).pc=t.pc+1)/\(z14 t i r).held.length<=t.held.length+1:=by
 have h1:=zj5 t.held i.n
 have h2:=zj6 t.held i.n
 have h3:=zj6 t.held i.obj
 have h4:=zj5 t.held i.obj
 unfold z14 z2f
 repeat' split
 all_goals first
  |exact⟨rfl,rfl,rfl,rfl,rfl,rfl, .inl rfl,by show(remI t.held i.n).length<=_;omega⟩
  |exact⟨rfl,rfl,rfl,rfl,rfl,rfl, .inl rfl,Nat.le_succ _⟩
  |exact⟨rfl,rfl,rfl,rfl,rfl,rfl, .inr rfl,by show(addI t.held i.n).length<=_;omega⟩
  |exact⟨rfl,rfl,rfl,rfl,rfl,rfl, .inr rfl,by show(addI t.held i.obj).length<=_;omega⟩
  |exact⟨rfl,rfl,rfl,rfl,rfl,rfl, .inr rfl,by show(remI t.held i.obj).length<=_;omega⟩
  |exact⟨rfl,rfl,rfl,rfl,rfl,rfl, .inr rfl,Nat.le_succ _⟩
theorem zj7 {p:PProg} {b:Int} {t:Thr} (hp:POk p) (ht:TOK t) (h:valT p b t=true) (hs:t.status=1) (r:Int):TWf p (z14 t (atI p t) r):=by
 have F:=z3n h
 have W:=F.wf ht
 obtain⟨_,ha,_⟩:=z6k h hs
 obtain⟨e1,e2,_,e4,_,_,e7,e8⟩:=zcx t (atI p t) r
 have hl:=F.hlen hp
 have hc:=(za6 W ha).1
 have hf:=F.fn
 have hpc:=F.pc
 have h64:=(hp.code (f:=t.fn.toNat) (by omega)).1
 refine⟨⟨by rw[e4,za7];exact ht.regs,by rw[e1];exact ht.id,by omega,by omega⟩,by rw[e2];exact hf,by rw[e2];omega⟩
theorem wE (t:Thr) (i:Inst) (r:Int):(⟨t.id,t.fn,t.pc,if(defI i).2=true then setR t.regs (defI i).1 r else t.regs,t.steps+1,t.kids,t.phase,t.status,t.fault,t.held⟩:Thr)=wrote t i r:=rfl
theorem zpq (t:Thr) (m:Int):(z2f t m).regs=t.regs:=by
 unfold z2f
 repeat' split
 all_goals rfl
theorem zThr:(0=c0t.id/\0=c0t.fn/\0=c0t.pc/\(∀ i:Nat,AV.int .i64 0=AV.int .i64 (c0t.regs.getD i 0))/\0=c0t.steps/\0=c0t.kids/\0=c0t.phase/\0=c0t.status/\0=c0t.fault/\c0t.held.length=0):=
 ⟨rfl,rfl,rfl,fun i=>by show _=AV.int .i64 ((List.replicate 8 0).getD i 0);rw[zj2],rfl,rfl,rfl,rfl,rfl,rfl⟩
theorem zpr (id fn arg:Int):dT (AV.agg [.int .i64 id, .int .i64 fn, .int .i64 0, .arr 8 (fun j=>if j=0 then AV.int .i64 arg else AV.int .i64 0), .int .i64 0, .int .i64 0, .int .i64 0, .int .i64 1, .int .i64 0, .nils])=zhf id fn arg:=rfl
theorem zhg (arg:Int) (j:Nat):(if j=0 then AV.int .i64 arg else AV.int .i64 0)=AV.int .i64 ((arg::List.replicate 7 0).getD j 0):=by
 cases j with
 |zero=>rfl
 |succ j=>
  rw[if_neg (by omega),List.getD_cons_succ,List.getD_eq_getElem?_getD,List.getElem?_replicate]
  split<;>rfl
section
variable (p:PProg) (b:Int) (id:Int) (fn:Int) (arg:Int)
def q7u:=0=(newT p b id fn arg).fst.id/\0=(newT p b id fn arg).fst.fn/\0=(newT p b id fn arg).fst.pc/\(∀ i:Nat,AV.int j6 0=AV.int j6 ((newT p b id fn arg).fst.regs.getD i 0))/\0=(newT p b id fn arg).fst.steps/\0=(newT p b id fn arg).fst.kids/\0=(newT p b id fn arg).fst.phase/\0=(newT p b id fn arg).fst.status/\0=(newT p b id fn arg).fst.fault/\(newT p b id fn arg).fst.held.length=0
def qt:=stdE (dP (encP p)) b !=0
def qat:=q7u p b id fn arg/\2=(newT p b id fn arg).snd
def q13u:=decide (depI id<0)
def qnr:=decide (fn<0)
def qau:=(!qnr fn)=true
def q2f:=qau fn->qau fn
def qav:=qnr fn||decide (↑p.funs.length<=fn)
def qgv:=AV.agg [AV.int j6 id,AV.int j6 fn,AV.int j6 0,AV.arr 8 fun j=>if j=Int.toNat 0 then strip1 (strip1 (AV.int j6 arg))else AV.int j6 0,AV.int j6 0,AV.int j6 0,AV.int j6 0,AV.int j6 1,AV.int j6 0,AV.nils]
def qaw:=encT (setl (dP (encP p)) b (dT (qgv id fn arg)))
end
theorem z16e (p:PProg) (b id fn arg:Int) (hp:PSm p) (hid:id<=9223372036854775807):KN 121 [vP p, .int .i64 b, .int .i64 id, .int .i64 fn, .int .i64 arg] (.tup [vT (newT p b id fn arg).1, .int .i64 (newT p b id fn arg).2]):=by
 refine Kn (vTv 50 fun _=>none) Tryz.func121 (KN 202 [AV.mc z7 (encP p),AV.int j6 b] (AV.int j6 (stdE (dP (encP p)) b))/\(qt p b=true->q7u p b id fn arg/\stdE (dP (encP p)) b=(newT p b id fn arg).snd)/\(qt p b=false->KN 212 [AV.int j6 id] (AV.int j6 (depI id))/\(q13u id=true->qat p b id fn arg)/\(q13u id=false->q2f fn/\q2f fn/\(qau fn->↑p.funs.length<=(9223372036854775807:Int))/\q2f fn/\q2f fn/\q2f fn/\(qav p fn=true->q7u p b id fn arg/\11=(newT p b id fn arg).snd)/\(qav p fn=false->KN 204 [AV.int j6 arg] (AV.int j6 (wr arg))/\((wr arg !=arg)=true->qat p b id fn arg)/\((wr arg !=arg)=false->inIx 0 8/\KN 206 [AV.mc z7 (encP p),AV.int j6 b,AV.mc zk (qgv id fn arg)] (AV.mc zk (qaw p b id fn arg))/\LS (qaw p b id fn arg) (encT (newT p b id fn arg).fst)/\0=(newT p b id fn arg).snd))))) ?_
 try delta q7u qt qat q13u qnr qau q2f qav qgv qaw
 simp only[SB,SX,inIx,reduceCtorEq,Int.reduceToNat]
 simp only[zpr]
 refine⟨kStd p b hp,fun h=>?_,fun h=>⟨kDep id hid,fun hd=>?_,fun hd=>⟨fun _=>by have :=hp.funs;omega,fun hf=>?_,fun hf=>⟨zcj _,fun hw=>?_,fun hw=>⟨by decide, ?_, ?_⟩⟩⟩⟩⟩
 . have e:newT p b id fn arg=(c0t,stdE p b):=by unfold newT;rw[if_pos h]
   rw[e];exact⟨zThr,rfl⟩
 . have e:newT p b id fn arg=(c0t,2):=by unfold newT;rw[if_neg (by simp[h]),if_pos hd]
   rw[e];exact⟨zThr,rfl⟩
 . have e:newT p b id fn arg=(c0t,11):=by unfold newT;rw[if_neg (by simp[h]),if_neg hd,if_pos hf]
   rw[e];exact⟨zThr,rfl⟩
 . have e:newT p b id fn arg=(c0t,2):=by unfold newT;rw[if_neg (by simp[h]),if_neg hd,if_neg (by omega),if_pos hw]
   rw[e];exact⟨zThr,rfl⟩
 . have hk:=z10z p b (zhf id fn arg) ⟨hp,(z48 h).1⟩ (zfj hid (by omega))
   exact hk.weaken (args':=[_,_,_]) rfl ⟨leP p,⟨rfl,rfl⟩,⟨rfl,⟨rfl,rfl⟩,⟨rfl,rfl⟩,⟨rfl,rfl⟩,⟨rfl,zhg arg⟩,⟨rfl,rfl⟩,⟨rfl,rfl⟩,⟨rfl,rfl⟩,⟨rfl,rfl⟩,⟨rfl,rfl⟩,rfl,trivial⟩,trivial⟩
 . have e:newT p b id fn arg=(setl p b (zhf id fn arg),0):=by unfold newT;rw[if_neg (by simp[h]),if_neg hd,if_neg (by omega),if_neg (by simp[hw])]
   rw[e];exact⟨⟨rfl,rfl,rfl,fun _=>rfl,rfl,rfl,rfl,rfl,rfl,rfl,fun _ _=>rfl⟩,rfl⟩
section
variable (t:Thr)
def q13v:=(!t.fault !=0)=true
def q13w:=q13v t->q13v t
end
section
variable (p:PProg) (t:Thr)
def q13x:=t.fault !=0||!atB (dP (encP p)) (dT (encT t))
def qns:=(!q13x p t)=true
def qgw:=qns p t->qns p t
def q13y:=KN 248 [AV.int j6 (atI (dP (encP p)) (dT (encT t))).op] (AV.bool (visB (atI (dP (encP p)) (dT (encT t))).op))
def q13z:=q13x p t||!visB (atI (dP (encP p)) (dT (encT t))).op
def qnt:=(!q13z p t)=true
def qgx:=qnt p t->qnt p t
def qnu:Int:=obsE (dT (encT t)) (dIn (encI (atI (dP (encP p)) (dT (encT t)))))
def q140:=KN 249 [AV.mc zk (encT t),AV.mc zy (encI (atI (dP (encP p)) (dT (encT t))))] (AV.int j6 (qnu p t))
def q141:=q13z p t||qnu p t !=0
def qgy:=(t.status==1)=true
def qgz:=qgy t->qgy t
end
section
variable (b:Int) (t:Thr)
def qh0:=t.status==1&&decide (t.steps<b)
def qax:=!qh0 b t
def qnv:=qax b t=true
def qay:=qnv b t->qnv b t
def qnw:=(qax b t&&t.status==4)=true
def q142:=qnw b t->qnw b t
def q143:=(t.status==4)=true
end
section
variable (p:PProg) (b:Int) (t:Thr)
def q144:=q13w t/\q13w t/\qgw p t/\qgw p t/\(qns p t->q13y p t)/\qgw p t/\qgw p t/\qgx p t/\qgx p t/\(qnt p t->q140 p t)/\qgx p t/\qgx p t/\(q141 p t=true->false=valT p b t)/\(q141 p t=false->qgz t/\qgz t/\qgz t/\qgz t/\qay b t/\qay b t/\qay b t/\q142 b t/\q142 b t/\qay b t/\(qnv b t->q143 t->qnw b t)/\qay b t/\(qh0 b t||t.status==4&&decide (1<=t.steps))=valT p b t)
def qnx:=(t.fault==0)=true
def q45:=qnx t->qnx t
def q7v:=t.fault==0&&t.phase==0
def qaz:=q7v t=true
def q46:=qaz t->qaz t
def qny:=(q7v t&&!!atB (dP (encP p)) (dT (encT t)))=true
def q145:=qny p t->qny p t
def q146:=(!t.phase !=0)=true
def q147:=q146 t->q146 t
def q148:=t.phase !=0||!atB (dP (encP p)) (dT (encT t))
def q149:=(atI (dP (encP p)) (dT (encT t))).op==6
def qnz:=q149 p t=true
def q7w:=qnz p t->qnz p t
def q7x:=(t.fault !=0)=true
def q7y:=q7x t->q7x t
def q14a:=((t.status==2)=true->q45 t/\q45 t/\q45 t/\q46 t/\q46 t/\q145 p t/\q145 p t/\q46 t/\(qaz t->(!!atB (dP (encP p)) (dT (encT t)))=true->qny p t)/\q46 t/\(q7v t&&(!atB (dP (encP p)) (dT (encT t))||(atI (dP (encP p)) (dT (encT t))).op==7))=valT p b t)/\((t.status==2)=false->((t.status==3)=true->q147 t/\q147 t/\(q148 p t=true->false=valT p b t)/\(q148 p t=false->((t.fault==26)=true->q7w p t/\q7w p t/\q7w p t/\(qnz p t->inIx (atI (dP (encP p)) (dT (encT t))).b 8)/\q7w p t/\q7w p t/\q7w p t/\(q149 p t&&t.regs.getD (atI (dP (encP p)) (dT (encT t))).b.toNat 0==0)=valT p b t)/\((t.fault==26)=false->((t.fault==29)=true->q13y p t/\(!visB (atI (dP (encP p)) (dT (encT t))).op)=valT p b t)/\((t.fault==29)=false->q7y t/\q7y t/\(q7x t->q140 p t)/\q7y t/\q7y t/\q7y t/\q7y t/\(t.fault !=0&&qnu p t==t.fault)=valT p b t))))/\((t.status==3)=false->false=valT p b t))
def q14b:=(t.status==1)=false
end
theorem zwj (p:PProg) (b:Int) (t:Thr) (hp:POk p) (ht:TOK t):KN 203 [vP p, .int .i64 b,vT t] (.bool (valT p b t)):=by
 refine Kn (vTv 123 fun _=>none) Tryz.func203 (KN 247 [AV.mc z7 (encP p),AV.int j6 b,AV.mc zk (encT t)] (AV.bool (z2w (dP (encP p)) b (dT (encT t))))/\((!z2w (dP (encP p)) b (dT (encT t)))=true->false=valT p b t)/\((!z2w (dP (encP p)) b (dT (encT t)))=false->KN 174 [AV.mc z7 (encP p),AV.mc zk (encT t)] (AV.tup [AV.mc zy (encI (atI (dP (encP p)) (dT (encT t)))),AV.bool (atB (dP (encP p)) (dT (encT t)))])/\(qgy t->(qgy t->q144 p b t)/\(q14b t->q14a p b t))/\(q14b t->(q143 t->q144 p b t)/\((t.status==4)=false->q14a p b t)))) ?_
 try delta q13v q13w q13x qns qgw q13y q13z qnt qgx qnu q140 q141 qgy qgz qh0 qax qnv qay qnw q142 q143 q144 qnx q45 q7v qaz q46 qny q145 q146 q147 q148 q149 qnz q7w q7x q7y q14a q14b
 simp only[SB,SX,inIx,reduceCtorEq,Int.reduceToNat]
 simp only[z2c t ht.regs]
 refine⟨z1eh p b t hp.sm ht,fun hf=>by unfold valT;rw[hf];rfl,fun hf=>?_⟩
 have F:=z61.1 hf
 have W:=F.wf ht
 have hb:atB p t=true ->(atI p t).op=6 ->0<=(atI p t).b/\(atI p t).b<8:=fun ha h6=>(zcv (z7d (zav hp W ha)).1).b (by rw[h6];rfl)
 refine⟨kAt p t F.fn F.pc.1 hp.sm, ?_⟩
 repeat' (first |apply And.intro |intro _)
 all_goals first
  | ((with_reducible show Known _ _ 248 _ _);exact kVis _)
  | ((with_reducible show Known _ _ 249 _ _);exact kObs t _ ht)
  |omega
  | (have :=hb (by simp_all) (by assumption);omega)
  | (simp_all [valT,vRun,vFin,zdh,regT];done)
  | (unfold valT vFin;rw[hf,Bool.true_and,if_neg (by omega),if_pos (by assumption),Bool.and_assoc];done)
  | (rename_i h;rcases h with((h|h)|h)|h<;>simp_all [valT,vRun,vFin,zdh,regT]<;>done)
  | (rename_i h;rcases h with h|h<;>simp_all [valT,vRun,vFin,zdh,regT]<;>done)
section
variable (p:PProg) (b:Int)
def q14c:=stdE (dP (encP p)) b==0
def qo0:=q14c p b=true
def qh1:=qo0 p b->qo0 p b
end
theorem zj8 (p:PProg) (b:Int) (t:Thr) (hp:PSm p) (ht:TOK t):KN 170 [vP p, .int .i64 b,vT t] (.bool (z2x p b t)):=by
 refine Kn (vTv 17 fun _=>none) Tryz.func170 (KN 202 [AV.mc z7 (encP p),AV.int j6 b] (AV.int j6 (stdE (dP (encP p)) b))/\qh1 p b/\qh1 p b/\qh1 p b/\(qo0 p b->KN 203 [AV.mc z7 (encP p),AV.int j6 b,AV.mc zk (encT t)] (AV.bool (valT (dP (encP p)) b (dT (encT t)))))/\qh1 p b/\(q14c p b&&valT (dP (encP p)) b (dT (encT t)))=z2x p b t) ?_
 try delta q14c qo0 qh1
 simp only[SB,SX,inIx,reduceCtorEq,Int.reduceToNat]
 simp only[z2c t ht.regs]
 exact⟨kStd p b hp,fun h=>zwj p b t ⟨hp,(z48 h).1⟩ ht,rfl⟩
section
variable (t:Thr)
def qo1:=(!t.status !=1)=true
def qh2:=qo1 t->qo1 t
end
section
variable (p:PProg) (t:Thr)
def q14d:=t.status !=1||!z2x (dP (encP p)) 32 (dT (encT t))
end
theorem ztj (p:PProg) (t:Thr) (hp:PSm p) (ht:TOK t):KN 104 [vP p,vT t] (.tup [vI (zg p t), .bool (z1b p t)]):=by
 refine Kn (vTv 21 fun _=>none) Tryz.func104 (qh2 t/\qh2 t/\(qo1 t->KN 170 [AV.mc z7 (encP p),AV.int j6 (32:Int),AV.mc zk (encT t)] (AV.bool (z2x (dP (encP p)) (32:Int) (dT (encT t)))))/\qh2 t/\qh2 t/\(q14d p t=true->(0=(zg p t).op/\0=(zg p t).a/\0=(zg p t).b/\0=(zg p t).c/\0=(zg p t).obj/\0=(zg p t).n/\0=(zg p t).fn/\0=(zg p t).ord)/\false=z1b p t)/\(q14d p t=false->KN 174 [AV.mc z7 (encP p),AV.mc zk (encT t)] (AV.tup [AV.mc zy (encI (atI (dP (encP p)) (dT (encT t)))),AV.bool (atB (dP (encP p)) (dT (encT t)))])/\LS (encI (atI (dP (encP p)) (dT (encT t)))) (encI (zg p t))/\atB (dP (encP p)) (dT (encT t))=z1b p t)) ?_
 try delta qo1 qh2 q14d
 simp only[SB,SX,inIx,reduceCtorEq,Int.reduceToNat]
 simp only[z2c t ht.regs]
 refine⟨fun h=>zj8 p 32 t hp ht,fun h=>?_,fun h=>⟨?_, ?_⟩⟩
 . have e:z1b p t=false:=by
    unfold z1b
    rcases h with h |h<;>simp[h]
   unfold zg;rw[e];exact⟨⟨rfl,rfl,rfl,rfl,rfl,rfl,rfl,rfl⟩,rfl⟩
 . have F:=z3n (z26.1 h.2).2
   exact kAt p t F.fn F.pc.1 hp
 . have e:z1b p t=true:=by unfold z1b;simp[h]
   unfold zg;rw[e];exact⟨⟨rfl,rfl,rfl,rfl,rfl,rfl,rfl,rfl⟩,(z6k (z26.1 h.2).2 h.1).2.1⟩
section
variable (t:Thr) (m:Int)
def q14e:=rowI (remI (qw t) m)
def qo2:=∀ i:Nat,AV.int j6 (t.regs.getD i 0)=AV.int j6 ((z2f t m).regs.getD i 0)
def q14f:=rowI (addI (qw t) m)
end
theorem z1eq (t:Thr) (m:Int) (ht:TOK t) (hpc:0<=t.pc/\t.pc<=1000000):KN 207 [vT t, .int .i64 m] (vT (z2f t m)):=by
 refine Kn (vTv 29 fun _=>none) Tryz.func207 (((t.phase==0)=true->KN 209 [rowI t.held,AV.int j6 m] (q14e t m)/\t.id=(z2f t m).id/\t.fn=(z2f t m).fn/\t.pc=(z2f t m).pc/\qo2 t m/\t.steps=(z2f t m).steps/\t.kids=(z2f t m).kids/\1=(z2f t m).phase/\t.status=(z2f t m).status/\t.fault=(z2f t m).fault/\LS (q14e t m) (rowI (z2f t m).held))/\((t.phase==0)=false->((t.phase==1)=true->t.id=(z2f t m).id/\t.fn=(z2f t m).fn/\t.pc=(z2f t m).pc/\qo2 t m/\t.steps=(z2f t m).steps/\t.kids=(z2f t m).kids/\2=(z2f t m).phase/\t.status=(z2f t m).status/\t.fault=(z2f t m).fault/\LS (rowI t.held) (rowI (z2f t m).held))/\((t.phase==1)=false->KN 208 [rowI t.held,AV.int j6 m] (q14f t m)/\InR j6 (q2w t)/\t.id=(z2f t m).id/\t.fn=(z2f t m).fn/\q2w t=(z2f t m).pc/\qo2 t m/\t.steps=(z2f t m).steps/\t.kids=(z2f t m).kids/\0=(z2f t m).phase/\t.status=(z2f t m).status/\t.fault=(z2f t m).fault/\LS (q14f t m) (rowI (z2f t m).held)))) ?_
 try delta qw q14e qo2 q14f q2w
 simp only[SB,SX,inIx,reduceCtorEq,Int.reduceToNat]
 simp only[oR]
 refine⟨fun h=>⟨kRem _ _ (by have :=ht.held;omega),by unfold z2f;rw[if_pos h];exact⟨rfl,rfl,rfl,fun _=>rfl,rfl,rfl,rfl,rfl,rfl,rfl,fun _ _=>rfl⟩⟩,fun h=>⟨fun h1=>by unfold z2f;rw[if_neg h,if_pos h1];exact⟨rfl,rfl,rfl,fun _=>rfl,rfl,rfl,rfl,rfl,rfl,rfl,fun _ _=>rfl⟩,fun h1=>⟨kAdd _ _ (by have :=ht.held;omega),za (by omega) (by omega),by unfold z2f;rw[if_neg h,if_neg h1];exact⟨rfl,rfl,rfl,fun _=>rfl,rfl,rfl,rfl,rfl,rfl,rfl,fun _ _=>rfl⟩⟩⟩⟩
section
variable (p:PProg) (b:Int) (t:Thr) (r:Int)
def q3d:=0=(z15 p b t r).fst.id/\0=(z15 p b t r).fst.fn/\0=(z15 p b t r).fst.pc/\(∀ i:Nat,AV.int j6 0=AV.int j6 ((z15 p b t r).fst.regs.getD i 0))/\0=(z15 p b t r).fst.steps/\0=(z15 p b t r).fst.kids/\0=(z15 p b t r).fst.phase/\0=(z15 p b t r).fst.status/\0=(z15 p b t r).fst.fault/\(z15 p b t r).fst.held.length=0
def q47:Int:=t.steps+1
def q14g:Int:=(defI (dIn (encI (atI (dP (encP p)) (dT (encT t)))))).fst
def qo3:=(defI (dIn (encI (atI (dP (encP p)) (dT (encT t)))))).snd
variable (x3:Nat)
def q3e:=AV.int j6 ((if(defI (atI p t)).snd=true then setR t.regs (defI (atI p t)).fst r else t.regs).getD x3 0)
def q14h:=RR (q47 t)/\RR t.kids/\RR t.phase/\RR t.status/\RR t.fault/\LT (rowI t.held)
def q14i:=(RR (0:Int)/\RR (0:Int)/\RR (0:Int)/\(∀ i:Nat,AV.int j6 0=q2e i)/\RR (0:Int)/\RR (0:Int)/\RR (0:Int)/\RR (0:Int)/\RR (0:Int)/\(0:Nat)=(0:Nat))/\LS (encI (atI (dP (encP p)) (dT (encT t)))) (encI (atI p t))
def q14j:=AV.agg [AV.int j6 t.id,AV.int j6 t.fn,AV.int j6 t.pc,AV.arr 8 fun i=>q3e p t r i,AV.int j6 (q47 t),AV.int j6 t.kids,AV.int j6 t.phase,AV.int j6 t.status,AV.int j6 t.fault,rowI t.held]
def q14k:=encT (z2f (dT (q14j p t r)) (atI p t).n)
def q14l:=AV.mc zk (q14k p t r)
def q14m:=encT (setl (dP (encP p)) b (dT (q14k p t r)))
def q14n:=0=(z15 p b t r).snd
def q14o:=(atI p t).op==18
variable (x0:Thr)
def qo4:Int:=x0.pc+1
variable (x4:Thr)
def qb0:=z1w p b t r/\z14 t (atI p t) r=Thr.mk x4.id x4.fn (qo4 x4) x4.regs x4.steps x4.kids x4.phase x4.status x4.fault x4.held/\x4.pc=t.pc
end
section
variable (p:PProg) (t:Thr) (r:Int) (x3:Thr)
def qh3:=∀ (i:Nat),q3e p t r i=AV.int j6 (x3.regs.getD i 0)
variable (x1:Thr)
def qh4:=q47 t=x1.steps
def q14p:=t.phase=x1.phase/\t.status=x1.status/\t.fault=x1.fault/\LS (rowI t.held) (rowI x1.held)
def qb1:=RR (0:Int)/\RR (0:Int)/\RR (0:Int)/\(∀ (i:Nat),RR (q2e i))/\RR (0:Int)/\RR (0:Int)/\RR (0:Int)/\RR (0:Int)/\RR (0:Int)/\LT (rowI [])
end
section
variable (p:PProg) (b:Int) (t:Thr) (r:Int)
def q14q:=∃ j,qb0 p b t r j/\RR b/\LT (encP p)/\(t.id=j.id/\t.fn=j.fn/\t.pc=j.pc/\qh3 p t r j/\qh4 t j/\t.kids=j.kids/\q14p t j)/\qb1
def q14r:List AV:=[rowI t.held,AV.int j6 (atI p t).obj]
def q14s:=rowI (addI (qw t) (atI p t).obj)
def q14t:=KN 208 (q14r p t) (q14s p t)/\(∃ j,qb0 p b t r j/\RR b/\LT (encP p)/\(t.id=j.id/\t.fn=j.fn/\t.pc=j.pc/\qh3 p t r j/\qh4 t j/\t.kids=j.kids/\t.phase=j.phase/\t.status=j.status/\t.fault=j.fault/\LS (q14s p t) (rowI j.held))/\qb1)
def q7z:=(atI p t).op==17
def qb2:=(atI p t).op==15
def q14u:=rowI (remI (qw t) (atI p t).obj)
def qb3:=(atI p t).op==16
def q80:Int:=t.kids+1
def qb4:=(atI p t).op==21
def qb5:=encT (setl (dP (encP p)) b (dT (encT (z14 t (atI p t) r))))
end
theorem z117 (p:PProg) (b:Int) (t:Thr) (r:Int) (hp:PSm p) (ht:TOK t):KN 118 [vP p, .int .i64 b,vT t, .int .i64 r] (.tup [vT (z15 p b t r).1, .int .i64 (z15 p b t r).2]):=by
 refine Kn {vTv 103 (fun _=>none)with cut:=zpp p b t r} Tryz.func118 (KN 202 [AV.mc z7 (encP p),AV.int j6 b] (AV.int j6 (stdE (dP (encP p)) b))/\(qt p b=true->q3d p b t r/\stdE (dP (encP p)) b=(z15 p b t r).snd)/\(qt p b=false->KN 203 [AV.mc z7 (encP p),AV.int j6 b,AV.mc zk (encT t)] (AV.bool (valT (dP (encP p)) b (dT (encT t))))/\((!valT (dP (encP p)) b (dT (encT t)))=true->q3d p b t r/\1=(z15 p b t r).snd)/\((!valT (dP (encP p)) b (dT (encT t)))=false->((t.status !=1)=true->q3d p b t r/\30=(z15 p b t r).snd)/\((t.status !=1)=false->KN 204 [AV.int j6 r] (AV.int j6 (wr r))/\((wr r !=r)=true->q3d p b t r/\2=(z15 p b t r).snd)/\((wr r !=r)=false->KN 174 [AV.mc z7 (encP p),AV.mc zk (encT t)] (AV.tup [AV.mc zy (encI (atI (dP (encP p)) (dT (encT t)))),AV.bool (atB (dP (encP p)) (dT (encT t)))])/\InR j6 (q47 t)/\(KN 205 [AV.mc zy (encI (atI (dP (encP p)) (dT (encT t))))] (AV.tup [AV.int j6 (q14g p t),AV.bool (qo3 p t)])/\(qo3 p t=true->inIx (q14g p t) 8/\(∃ (j:Unit),z1w p b t r/\(RR b/\RR r)/\LT (encP p)/\(RR t.id/\RR t.fn/\RR t.pc/\(∀ (i:Nat),(if i=(defI (dIn (encI (atI (dP (encP p)) (dT (encT t)))))).fst.toNat then strip1 (strip1 (AV.int j6 r))else AV.int j6 (t.regs.getD i 0))=q3e p t r i)/\q14h t)/\q14i p t))/\(qo3 p t=false->∃ (j:Unit),z1w p b t r/\(RR b/\RR r)/\LT (encP p)/\(RR t.id/\RR t.fn/\RR t.pc/\(∀ (i:Nat),AV.int j6 (t.regs.getD i 0)=q3e p t r i)/\q14h t)/\q14i p t))/\∀ i:Unit,z1w p b t r->(q14o p t=true->KN 207 [AV.mc zk (q14j p t r),AV.int j6 (atI p t).n] (q14l p t r)/\KN 206 [AV.mc z7 (encP p),AV.int j6 b,q14l p t r] (AV.mc zk (q14m p b t r))/\LS (q14m p b t r) (encT (z15 p b t r).fst)/\q14n p b t r)/\(q14o p t=false->((q7z p t=true->((r==0)=true->q14q p b t r)/\((r==0)=false->q14t p b t r))/\(q7z p t=false->(qb2 p t=true->q14t p b t r)/\(qb2 p t=false->(qb3 p t=true->KN 209 (q14r p t) (q14u p t)/\(∃ j,qb0 p b t r j/\RR b/\LT (encP p)/\(t.id=j.id/\t.fn=j.fn/\t.pc=j.pc/\qh3 p t r j/\qh4 t j/\t.kids=j.kids/\t.phase=j.phase/\t.status=j.status/\t.fault=j.fault/\LS (q14u p t) (rowI j.held))/\qb1))/\(qb3 p t=false->(qb4 p t=true->InR j6 (q80 t)/\(∃ j,qb0 p b t r j/\RR b/\LT (encP p)/\(t.id=j.id/\t.fn=j.fn/\t.pc=j.pc/\qh3 p t r j/\qh4 t j/\q80 t=j.kids/\q14p t j)/\qb1))/\(qb4 p t=false->q14q p b t r)))))/\∀ (i:Thr),qb0 p b t r i->(InR j6 (qo4 i)/\∃ (j:Unit),z1w p b t r/\RR b/\LT (encP p)/\(i.id=(z14 t (atI p t) r).id/\i.fn=(z14 t (atI p t) r).fn/\qo4 i=(z14 t (atI p t) r).pc/\(∀ (i_1:Nat),AV.int j6 (i.regs.getD i_1 (0:Int))=AV.int j6 ((z14 t (atI p t) r).regs.getD i_1 (0:Int)))/\i.steps=(z14 t (atI p t) r).steps/\i.kids=(z14 t (atI p t) r).kids/\i.phase=(z14 t (atI p t) r).phase/\i.status=(z14 t (atI p t) r).status/\i.fault=(z14 t (atI p t) r).fault/\LS (rowI i.held) (rowI (z14 t (atI p t) r).held))/\qb1)/\∀ (i:Unit),z1w p b t r->KN 206 [AV.mc z7 (encP p),AV.int j6 b,AV.mc zk (encT (z14 t (atI p t) r))] (AV.mc zk (qb5 p b t r))/\LS (qb5 p b t r) (encT (z15 p b t r).fst)/\q14n p b t r)))))) ?_
 try delta q3d qt q47 q14g qo3 q3e q14h q2e q14i q14j q14k q14l q14m q14n q14o qo4 qb0 qh3 qh4 q14p qb1 q14q q14r qw q14s q14t q7z qb2 q14u qb3 q80 qb4 qb5
 simp only[SB,SX,inIx,reduceCtorEq,Int.reduceToNat]
 have hw:=za7 t (atI p t) r
 rw[ht.regs]at hw
 have hw':(if(defI (atI p t)).2=true then setR t.regs (defI (atI p t)).1 r else t.regs).length=8:=hw
 have hd:(z14 t (atI p t) r).regs.length=8:=by rw[(zcx t (atI p t) r).2.2.2.1];exact hw
 have hww:(z2f (wrote t (atI p t) r) (atI p t).n).regs.length=8:=by rw[zpq];exact hw
 simp only[z2c t ht.regs,fT',wE,z2c _ hw,z2c _ hww,z2c _ hd,oR,and_true]
 refine⟨kStd p b hp,fun h=>?_,fun h=>⟨zwj p b t ⟨hp,(z48 h).1⟩ ht,fun hv=>?_,fun hv=>⟨fun hs=>?_,fun hs=>⟨zcj _,fun hr=>?_,fun hr=>?_⟩⟩⟩⟩
 . have e:z15 p b t r=(c0t,stdE p b):=by unfold z15;rw[if_pos h]
   rw[e];exact⟨zThr,rfl⟩
 . have e:z15 p b t r=(c0t,1):=by unfold z15;rw[if_neg (by simp[h]),if_pos hv]
   rw[e];exact⟨zThr,rfl⟩
 . have e:z15 p b t r=(c0t,30):=by unfold z15;rw[if_neg (by simp[h]),if_neg (by simp[hv]),if_pos hs]
   rw[e];exact⟨zThr,rfl⟩
 . have e:z15 p b t r=(c0t,2):=by unfold z15;rw[if_neg (by simp[h]),if_neg (by simp[hv]),if_neg (by simp[hs]),if_pos hr]
   rw[e];exact⟨zThr,rfl⟩
 have hf:z1w p b t r:=⟨h,hv,hs,hr⟩
 have e:z15 p b t r=(setl p b (z14 t (atI p t) r),0):=by unfold z15;rw[if_neg (by simp[h]),if_neg (by simp[hv]),if_neg (by simp[hs]),if_neg (by simp[hr])]
 have P:POk p:=⟨hp,(z48 h).1⟩
 have F:=z3n hv
 have W:=F.wf ht
 obtain⟨r1,r2,r3,r4,r5⟩:=z6k hv hs
 have DW:=zj7 P ht hv hs r
 have h5:=F.steps
 have hsm:=W.small P
 have hlen:=F.hlen P
 have hstd:=(z48 h).2
 rw[e]
 refine⟨kAt p t F.fn F.pc.1 hp,za (by omega) (by omega),⟨kDef _,fun hd=>⟨by have :=zti hd;omega,(),hf,fun j=>?_,fun j=>by rw[zj2]⟩,fun hd=>⟨(),hf,fun j=>?_,fun j=>by rw[zj2]⟩⟩, ?_⟩
 . rw[if_pos hd]
   obtain⟨q1,q2⟩:=zti hd
   rw[q1];exact zhd _ _ _ ht.regs q2 j
 . rw[if_neg (by simp[hd])]
 refine fun _ _=>⟨fun h18=>?_,fun h18=>⟨⟨fun h17=>⟨fun r0=>?_,fun r0=>⟨kAdd _ _ (by omega), ?_⟩⟩,fun h17=>?_⟩, ?_⟩⟩
 . have ed:z14 t (atI p t) r=z2f (wrote t (atI p t) r) (atI p t).n:=by unfold z14;rw[if_pos h18]
   rw[ed]at DW ⊢
   exact⟨z1eq _ _ ⟨hw,ht.id,by show t.pc<_;omega,by show t.held.length<=_;omega⟩ (by show 0<=t.pc/\t.pc<=_;omega),z10z p b _ P DW,⟨rfl,rfl,rfl,fun _=>rfl,rfl,rfl,rfl,rfl,rfl,rfl,fun _ _=>rfl⟩,rfl⟩
 . exact⟨wrote t (atI p t) r,⟨hf,by unfold z14;rw[if_neg h18,if_neg (by omega),if_neg (by omega),if_neg (by omega)];rfl,rfl⟩,⟨rfl,rfl,rfl,fun _=>rfl,rfl,rfl,rfl,rfl,rfl,rfl,fun _ _=>rfl⟩⟩
 . exact⟨{wrote t (atI p t) r with held:=addI t.held (atI p t).obj},⟨hf,by unfold z14;rw[if_neg h18,if_pos (.inl ⟨h17,r0⟩)];rfl,rfl⟩,⟨rfl,rfl,rfl,fun _=>rfl,rfl,rfl,rfl,rfl,rfl,rfl,fun _ _=>rfl⟩⟩
 . refine⟨fun h15=>⟨kAdd _ _ (by omega), ?_⟩,fun h15=>⟨fun h16=>⟨kRem _ _ (by omega), ?_⟩,fun h16=>⟨fun h21=>⟨za (by have :=F.kids;omega) (by have :=F.kids;omega), ?_⟩,fun h21=>?_⟩⟩⟩
   . exact⟨{wrote t (atI p t) r with held:=addI t.held (atI p t).obj},⟨hf,by unfold z14;rw[if_neg h18,if_pos (.inr h15)];rfl,rfl⟩,⟨rfl,rfl,rfl,fun _=>rfl,rfl,rfl,rfl,rfl,rfl,rfl,fun _ _=>rfl⟩⟩
   . exact⟨{wrote t (atI p t) r with held:=remI t.held (atI p t).obj},⟨hf,by unfold z14;rw[if_neg h18,if_neg (by omega),if_pos h16];rfl,rfl⟩,⟨rfl,rfl,rfl,fun _=>rfl,rfl,rfl,rfl,rfl,rfl,rfl,fun _ _=>rfl⟩⟩
   . exact⟨{wrote t (atI p t) r with kids:=t.kids+1},⟨hf,by unfold z14;rw[if_neg h18,if_neg (by omega),if_neg h16,if_pos h21];rfl,rfl⟩,⟨rfl,rfl,rfl,fun _=>rfl,rfl,rfl,rfl,rfl,rfl,rfl,fun _ _=>rfl⟩⟩
   . exact⟨wrote t (atI p t) r,⟨hf,by unfold z14;rw[if_neg h18,if_neg (by omega),if_neg h16,if_neg h21];rfl,rfl⟩,⟨rfl,rfl,rfl,fun _=>rfl,rfl,rfl,rfl,rfl,rfl,rfl,fun _ _=>rfl⟩⟩
 . rintro u ⟨_,hu,hpc⟩
   refine⟨⟨za (by omega) (by omega),(),hf,by rw[hu];exact⟨rfl,rfl,rfl,fun _=>rfl,rfl,rfl,rfl,rfl,rfl,rfl,fun _ _=>rfl⟩⟩,fun _ _=>⟨z10z p b _ P DW,⟨rfl,rfl,rfl,fun _=>rfl,rfl,rfl,rfl,rfl,rfl,rfl,fun _ _=>rfl⟩,rfl⟩⟩
def uA (t:Thr) (i:Inst) (r:Int):Thr:={wrote t i r with held:=if(i.op=17/\r≠0)∨i.op=15 then addI t.held i.obj else t.held}
def uB (t:Thr) (i:Inst) (r:Int):Thr:={wrote t i r with held:=if i.op=16 then remI t.held i.obj else(uA t i r).held}
abbrev z4r (m:Mem):BoxC:= .cell 38 zm (encM m)
def qBox (l:List (List Int)):BoxC:= .row 31 .leaf l.length fun i=>rowI (l.getD i [])
def allI (m:Mem):List Int:=m.sig++m.queues.flatten
def z11b (l:List Int):Bool:=(List.range l.length).all fun i=>!decide (l.getD i 0<0)&&!hasI (l.take i) (l.getD i 0)
def z18 (m:Mem):Bool:=!(decide (8<m.vars.length) || (decide (4<m.owners.length) || decide (4<m.queues.length)))&&(z3l m.sig&&(m.vars.all valB&&(m.owners.all (fun o=>decide (-1<=o))&&z11b (allI m))))
def newM (p:PProg):Mem×Int:=if(zc p).1≠0 then(c0m,(zc p).1)else(⟨p.vars.map (·.init),List.replicate p.muts.length (-1),List.replicate p.conds.length [],[]⟩,0)
def z1f (p:PProg) (m:Mem):Bool:=(zc p).1==0&&(z18 m&&(m.vars.length==p.vars.length&&(m.owners.length==p.muts.length&&m.queues.length==p.conds.length)))
def insE (m:Mem) (i n:Int):Int:=if z18 m=false then 1 else if i<0∨n<=i then 11 else 0
def z2y (m:Mem) (x:Int):Int×Int:=if insE m x m.vars.length≠0 then(0,insE m x m.vars.length)else(m.vars.getD x.toNat 0,0)
def zr (m:Mem) (x v:Int):Mem×Int:=
 if insE m x m.vars.length≠0 then(c0m,insE m x m.vars.length)else if v< -2147483648∨2147483647<v then(c0m,2)else({m with vars:=m.vars.set x.toNat v},0)
def z45 (m:Mem) (i:Int):Bool:=insE m i m.owners.length==0&&m.owners.getD i.toNat 0== -1
def ownM (m:Mem) (i id fr to:Int):Mem×Int:=
 if insE m i m.owners.length≠0 then(c0m,insE m i m.owners.length)else if id<0 then(c0m,2)else if m.owners.getD i.toNat 0≠fr then(c0m,30)else({m with owners:=m.owners.set i.toNat to},0)
def z5b (m:Mem) (id:Int):Bool:=m.queues.any (fun q=>hasI q id) || hasI m.sig id
def enqM (m:Mem) (c id:Int):Mem×Int:=
 if insE m c m.queues.length≠0 then(c0m,insE m c m.queues.length)else if id<0 then(c0m,2)else if z5b m id then(c0m,30)else({m with queues:=m.queues.set c.toNat (m.queues.getD c.toNat []++[id])},0)
def zdi (m:Mem) (c:Nat) (n:Nat):Mem:={m with sig:=((m.queues.getD c []).take n).foldl addI m.sig,queues:=m.queues.set c ((m.queues.getD c []).drop n)}
def zi (m:Mem) (c n:Int):Mem×Int×Int:=
 if insE m c m.queues.length≠0 then(c0m,0,insE m c m.queues.length)else(zdi m c.toNat (min n ((m.queues.getD c.toNat []).length:Int)).toNat,min n ((m.queues.getD c.toNat []).length:Int),0)
def z1z (l:List (List Int)):Int:=l.foldl (fun a q=>max a (q.length:Int)) 0
def z1s (m:Mem) (id:Int):Mem×Int:=if z18 m=false then(c0m,1)else if hasI m.sig id=false then(c0m,30)else({m with sig:=remI m.sig id},0)
structure MSm (m:Mem):Prop where
 vars:m.vars.length<=1000000
 owners:m.owners.length<=1000000
 queues:m.queues.length<=1000000
 sig:m.sig.length<=1000000
 all:(allI m).length<=400000
def zb2 (m:Mem):AV:= .mc zm (.agg [.own 0 m.vars.length, .own 1 m.owners.length, .own 2 m.queues.length, .own 3 m.sig.length])
def zeb (m:Mem):List BoxC:=[iBox m.vars,iBox m.owners,qBox m.queues,iBox m.sig]
def spM:FuncId ->List AV ->Option AV
 |201,[.seq _ n f]=>some (.own 0 n)
 |236,[.mc _ m]=>some (.bool (z18 (dM m)))
 |120,[.mc _ p]=>some (.tup [vM (newM (dP p)).1, .int .i64 (newM (dP p)).2])
 |169,[.mc _ p, .mc _ m]=>some (.bool (z1f (dP p) (dM m)))
 |240,[.mc _ m, .int _ i, .int _ n]=>some (.int .i64 (insE (dM m) i n))
 |175,[.mc _ m, .int _ x]=>some (.tup [.int .i64 (z2y (dM m) x).1, .int .i64 (z2y (dM m) x).2])
 |185,[.mc _ m, .int _ x, .int _ v]=>some (.tup [vM (zr (dM m) x v).1, .int .i64 (zr (dM m) x v).2])
 |177,[.mc _ m, .int _ i]=>some (.bool (z45 (dM m) i))
 |243,[.mc _ m, .int _ i, .int _ id, .int _ a, .int _ b]=>some (.tup [vM (ownM (dM m) i id a b).1, .int .i64 (ownM (dM m) i id a b).2])
 |195,[.mc _ m, .int _ i, .int _ id]=>some (.tup [vM (ownM (dM m) i id (-1) id).1, .int .i64 (ownM (dM m) i id (-1) id).2])
 |196,[.mc _ m, .int _ i, .int _ id]=>some (.tup [vM (ownM (dM m) i id id (-1)).1, .int .i64 (ownM (dM m) i id id (-1)).2])
 |244,[.mc _ m, .int _ id]=>some (.bool (z5b (dM m) id))
 |197,[.mc _ m, .int _ c, .int _ id]=>some (.tup [vM (enqM (dM m) c id).1, .int .i64 (enqM (dM m) c id).2])
 |246,[.mc _ m, .int _ c, .int _ n]=>some (.tup [vM (zi (dM m) c n).1, .int .i64 (zi (dM m) c n).2.1, .int .i64 (zi (dM m) c n).2.2])
 |199,[.mc _ m, .int _ c]=>some (.tup [vM (zi (dM m) c 1).1, .int .i64 (zi (dM m) c 1).2.1, .int .i64 (zi (dM m) c 1).2.2])
 |200,[.mc _ m, .int _ c]=>some (.tup [vM (zi (dM m) c (z1z (dM m).queues)).1, .int .i64 (zi (dM m) c (z1z (dM m).queues)).2.1, .int .i64 (zi (dM m) c (z1z (dM m).queues)).2.2])
 |198,[.mc _ m, .int _ id]=>some (.tup [vM (z1s (dM m) id).1, .int .i64 (z1s (dM m) id).2])
 |116,[.mc _ m]=>some (zb2 (dM m))
 |f,l=>spTv f l
def spMs:FuncId ->List AV ->Option AV
 |201,[.seq _ n f]=>some (rowI (zw n f))
 |f,l=>spM f l
def frM:FuncId ->List AV ->Option (List BoxC)
 |201,[.seq _ n f]=>some [iBox (zw n f)]
 |116,[.mc _ m]=>some (zeb (dM m))
 |f,l=>frI f l
def mkM:FuncId ->List AV ->Option (AV×BoxC)
 |201,[.seq _ n f]=>some (.own 0 n,iBox (zw n f))
 |_,_=>none
noncomputable def cfgM (n:Nat) (mk:FuncId ->Nat ->Bool):Cfg:={cfgS n with fresh:=frM,mkr:=mkM,isMk:=mk}
theorem zd (n:Nat) (mk:FuncId ->Nat ->Bool):z1d (cfgM n mk):=z3g (by kernel_rfl)
noncomputable def vM2 (n:Nat) (inv:Nat ->Option Inv):VCtx:={C:=cfgM n fun _ _=>false,CC:=Known Tryz.prog GG,orc:=fun _ _=>spM,inv:=inv}
noncomputable def vM3 (n:Nat) (mk:Nat ->Bool) (inv:Nat ->Option Inv):VCtx:={C:=cfgM n fun f d=>Nat.beq f 201&&mk d,CC:=Known Tryz.prog GG,orc:=fun _ _=>spMs,inv:=inv}
def z16u (m:Mem) (k:Nat):Option Inv:=match Nat.beq k 4 with
 |true=>iw m.vars.length (fun i=>⟨[(1, .ptr 1 []),(35,rowI m.vars),(36, .int .i64 m.vars.length),(37, .int .i64 i)],[(1,z4r m)]⟩) fun i=>∀ j,j<i ->valB (m.vars.getD j 0)=true
 |false=>match Nat.beq k 10 with
  |true=>iw m.owners.length (fun i=>⟨[(1, .ptr 1 []),(49,rowI m.owners),(50, .int .i64 m.owners.length),(51, .int .i64 i)],[(1,z4r m)]⟩) fun i=>∀ j,j<i -> -1<=m.owners.getD j 0
  |false=>match Nat.beq k 17 with
   |true=>iv m.queues.length fun i=>⟨[(7, .own 249856 (m.sig++(m.queues.take i).flatten).length),(62,rowQ m.queues),(63, .int .i64 m.queues.length),(64, .int .i64 i)],[(249856,iBox (m.sig++(m.queues.take i).flatten))]⟩
   |false=>match Nat.beq k 22 with
    |true=>iw ((allI m).length) (fun i=>⟨[(7,rowI (allI m)),(72,rowI (allI m)),(73, .int .i64 (allI m).length),(74, .int .i64 i)],[]⟩) fun i=>∀ j,j<i ->0<=(allI m).getD j 0/\hasI ((allI m).take j) ((allI m).getD j 0)=false
    |false=>none
def ztm (m:Mem) (k:Nat):Option Inv:=match Nat.beq k 3 with
 |true=>iv m.queues.length fun i=>⟨[(1, .ptr 1 []),(2, .ptr 2 []),(3, .ptr 3 []),(21,rowQ m.queues),(22, .int .i64 m.queues.length),(23, .int .i64 i)],[(1,z4r m),(2,z4r c0m),(3, .cell 38 zm (.agg [.own 8 m.vars.length, .own 11 m.owners.length, .own 15 m.queues.length, .own 18 m.sig.length])),(8,iBox m.vars),(11,iBox m.owners),(15, .row 31 .leaf m.queues.length fun j=>if j<i then rowI (m.queues.getD j [])else .nils),(18,iBox m.sig)]⟩
 |false=>none
end
end Go.Proofs.S25
