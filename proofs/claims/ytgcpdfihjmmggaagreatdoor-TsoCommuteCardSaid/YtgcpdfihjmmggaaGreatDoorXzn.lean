import Derived.Test.YtgcpdfihjmmggaaGreatDoorXzm
import Derived.Test.YtgcpdfihjmmggaaGreatDoorXzb
import Derived.Test.YtgcpdfihjmmggaaGreatDoorXg
import Derived.Laws.AppendOwn
namespace Go.Proofs.S25
open Go Go.AV Tryz
open Go.IntKind renaming i64 -> j6
open Go.AV.ex (ey)
noncomputable section
theorem zs7 {m:i8} (y:jZ m) {i j:Nat} (f:i<j) (s:j<m.a6.length) (E:0<(m.a6.getD i []).length) (h2:0<(m.a6.getD j []).length):(m.a6.getD i []).getD 0 0≠(m.a6.getD j []).getD 0 0:=by
 have h:=y.nd;unfold kw at h;have x:=(List.pairwise_flatten.1 (List.pairwise_append.1 h).2.1).2;rw[wh]at x;have u:=x i j O s f;have e:∀ k (r:k<m.a6.length),m.a6[k]=m.a6.getD k []:=λk r=>by rw[x7,xe r];rfl
 rw[e i O,e j s]at u;exact u _ (oI E) _ (oI h2)
theorem zuv {m:i8} (f:jZ m) {i j:Nat} (e:i≠j) (s:i<m.a6.length) (r:j<m.a6.length) (k:0<(m.a6.getD i []).length) (h2:0<(m.a6.getD j []).length):(m.a6.getD i []).getD 0 0≠(m.a6.getD j []).getD 0 0:=by
 rcases Nat.lt_or_gt_of_ne e with h |h;exact zs7 f h r k h2;exact(zs7 f h s h2 k).symm
end
end Go.Proofs.S25
namespace Go.Proofs.S25
open Go Go.AV Tryz Go.RowKit
variable (N:Nat ->Prop)
def GN:List (Nat×AV):=(aaj, .jS N)::GG
theorem zju {N:Nat ->Prop} {g:Nat} {x:AV} (h:AV.get GG g=some x):AV.get (GN N) g=some x:=by
 unfold GG at h;simp[AV.get]at h;split at h;rename_i e;rw[<- xc e];exact h;split at h;rename_i e;rw[<- xc e];exact h;cases h
def fg (l:List Int):AV:= .cz N .ey l.length λi=> d9 (l.getD i 0)
def ZE (l:List (List Int)):ar:= .row 29 .ey l.length λi=>fg N (l.getD i [])
def abd (m:i8):List ar:=[bw m.eA,bw m.aa,ZE N m.a6,bw m.lT]
noncomputable def aij (n:Nat):bm:={C:={eM n with iZ:=λd=>Nat.beq d 6,mq:=λd=>Nat.beq d 6},CC:=mp prog GG,b9:=λ_ _ _ _=>none,inv:=λ_=>none}
def oEa:FuncId ->List AV ->Option AV
 |161,[.seq _ n f]=>some (fg N (zw n f))
 |_,_=>none
noncomputable def ZN (N:Nat ->Prop) (n:Nat):ls:={eM n with G:=GN N,nU:=c6 prog (GN N),Vs:=aab,mU:=λf d=>Nat.beq f 161&&(Nat.beq d 7 || (Nat.beq d 10 || Nat.beq d 13))}
theorem zuw (n:Nat):gn (ZN N n):=ll (ac)
noncomputable def vEa (N:Nat ->Prop) (n:Nat) (inv:Nat ->Option lm):bm:={C:=ZN N n,CC:=mp prog (GN N),b9:=λ_ _=>oEa N,inv:=inv}
def aky (m:i8) (k:Nat):Option lm:=match Nat.beq k 3 with
 |true=>iv m.a6.length λi=>⟨[(1, .ptr 1 []),(2, .ptr 2 []),(3, .ptr 3 []),(4,d9 i)],[(1,iY m),(2,iY du),(3, .cell 32 zm (.agg [.own 7 m.eA.length, .own 10 m.aa.length, .own 31 (m.a6.take i).length, .own 13 m.lT.length])),(7,bw m.eA),(10,bw m.aa),(31,ZE N (m.a6.take i)),(13,bw m.lT)]⟩
 |false=>none
noncomputable def zzg (N:Nat ->Prop) (m:i8):Prop:=z6v (vEa N 34 (aky N m)) f101 [vM m] (va m) (abd N m)
end Go.Proofs.S25
namespace Go.Proofs.S25
open Go Go.AV Tryz Go.RowKit
open Go.IntKind renaming i64 -> j6
open Go.AV.ex (ey)
noncomputable section
variable {N:Nat ->Prop} {f:FuncId} {args:List AV}
theorem aia:KN 161 [a8 []] .ax:=by
 refine Kn (aij 7) func161 (bt/\True) ?_;delta bt;exact⟨rfl,trivial⟩
theorem more {r:AV} (h:KN f args r):mp prog (GN N) f args r:=
 h.imp_left λh=>⟨h.1,λw F e a b=>h.2 w F e a λg x i=>b g x (zju i)⟩
theorem Mh {r:AV} {cs:List ar} (h:KF f args r cs):c6 prog (GN N) f args r cs:=
 ⟨h.1,λw F e a b=>h.2 w F e a λg x i=>b g x (zju i)⟩
theorem agq {ty:TypeId} {sh:ex} {n:Nat} {g:Nat ->AV} (h:KF f args (.own 0 n) [.row ty sh n g]) (h0:0<n):mp prog (GN N) f args (.cz N sh n g):=by
 refine .inl ⟨h.1,λw F vs Y H X hr=>(h.2 w F vs Y (λg x u=>H g x (zju u)) X hr).mono ?_⟩;rintro en w' ⟨v,F',φ',rfl,hb,f1,f2,f3,hv,R,_⟩;have Q:∀ k,F k∨N k:=by
  have :=H aaj (.jS N) rfl;cases this with |jS _ _ _ h=>exact h
 obtain⟨a1,_,⟨h1,h2⟩ | ⟨g',cs,J,hB,Z,hh,K,a2,_,y⟩⟩:=R 0 _ rfl;omega;rcases hv.dw with⟨g2,u,rfl,hc⟩ | ⟨u,_,_⟩
 rw[J]at u;cases u;refine⟨_,λk=>F' k∨k=g',rfl,hb,λk m=> .inl (f1 k m),λk m=>m.elim (f2 k) λe=> .inr (e ▸ hB),λk m=>m.elim (f3 k) λe=>e ▸ (xj.1 hh).1, ?_⟩;have lt:∀ i,i<n ->∀ j,j<sh.size ->i*sh.size+j<(φ' 0).cap*sh.size:=λi V j U=>by
  have E:=xn sh.size (show i+1<=(φ' 0).cap by omega);rw[y7]at E;omega
 refine .cz N g' 0 n _ sh g (λi j=>cs.getD (i*sh.size+j) undef) (.inr rfl) ((Q g').resolve_left λhF=>Z (f1 _ hF)) ⟨rfl,h0,cs,_,hh,by rw[K];exact xm _⟩ hc (λi V j U=>?_) λi V j U=>?_;rw[xw];exact nq hh (by rw[K];exact lt i V j U);exact(y i V j U).keep (λ_ _=>rfl) λk m=> .inl m;rw[J]at u;cases u
theorem aju (N:Nat ->Prop) (l:List Int) (hl:l.length<=1000000):mp prog (GN N) 161 [a8 l] (fg N l):=by
 cases l with
 |nil=>exact(more aia).imp λw F v h=>by cases h;exact .fJ _ _ _
 |cons x l=>exact agq (nF (x::l) hl) (ap)
section
variable (N:Nat ->Prop) (m:i8) (x2:Nat) (x3:Nat)
def qtj:=fg N ((List.take x2 m.a6).getD x3 [])
end
theorem alo (N:Nat->Prop) (m:i8):zzg N m=((c6 prog (GN N) (161:Nat) [a8 m.eA] (AV.own (0:Nat) m.eA.length) [ar.row (3:TypeId) ey (ql m) λi=>qu m i])/\(c6 prog (GN N) (161:Nat) [a8 m.aa] (AV.own (0:Nat) m.aa.length) [ar.row (3:TypeId) ey (qm m) λi=>qv m i])/\(c6 prog (GN N) (161:Nat) [a8 m.lT] (AV.own (0:Nat) m.lT.length) [ar.row (3:TypeId) ey (qk m) λi=>qo m i])/\(∃ (i:Nat),i<=List.length (i8.a6 m)/\(0:Int)=(↑i:Int)/\LS (aj m) (aj m)/\((0:Nat)=(0:Nat)/\(0:Nat)=(0:Nat)/\(0:Nat)=(0:Nat)/\(0:Nat)=(0:Nat))/\(RR (List.length (i8.eA m))/\RR (List.length (i8.aa m))/\oi m i/\RR (List.length (i8.lT m)))/\(ql m=List.length (i8.eA m)/\∀ (i:Nat),i<ql m->qu m i=d9 (List.getD (i8.eA m) i (0:Int)))/\(qm m=List.length (i8.aa m)/\∀ (i:Nat),i<qm m->qv m i=d9 (List.getD (i8.aa m) i (0:Int)))/\oi m i/\qk m=List.length (i8.lT m)/\∀ (i:Nat),i<qk m->qo m i=d9 (List.getD (i8.lT m) i (0:Int)))/\∀ i:Nat,i<=m.a6.length->↑m.a6.length<=(9223372036854775807:Int)/\(qj m i=true->af (↑i) m.a6.length/\(mp prog (GN N) (161:Nat) [a8 (m.a6.getD (↑i:Int).toNat [])] (AV.cz N ey (vg m i).length λi_1=>d9 ((vg m i).getD i_1 (0:Int))))/\1*ey.size<=16777216/\(RR (List.take i m.a6).length/\↑(lU m i)*↑(24:Nat)<=(140737488355328:Int)/\lU m i<=9223372036854775807)/\1<=1/\aM j6 (q9 i)/\(∃ (j:Nat),j<=List.length (i8.a6 m)/\qi m j<qi m i/\q9 i=(↑j:Int)/\LS (aj m) (aj m)/\(vK/\vK/\(RR ((0:Nat))/\∀ (i:Nat),i<(0:Nat)->RR (a8 (List.getD [] i [])))/\vK)/\(RR (List.length (i8.eA m))/\RR (List.length (i8.aa m))/\oH m i j/\RR (List.length (i8.lT m)))/\lp m/\lg m/\(oH m i j/\∀ (i_1:Nat),i_1<lU m i->(if i_1<List.length (List.take i (i8.a6 m))then qtj N m i i_1 else List.getD (List.set (List.replicate (1:Nat) AV.ax) (0:Nat) (aq (fg N (vg m i)))) (i_1 - List.length (List.take i (i8.a6 m))) AV.any)=qtj N m j i_1)/\mw m))/\(qj m i=false->(RR m.eA.length/\RR m.aa.length/\uP m i/\RR m.lT.length)/\lp m/\lg m/\(uP m i/\∀ (i_1:Nat),i_1<(List.take i m.a6).length->qtj N m i i_1=fg N (m.a6.getD i_1 []))/\mw m)):=ac
theorem aim (N:Nat ->Prop) (m:i8) (f:dk m):c6 prog (GN N) 101 [vM m] (va m) (abd N m):=by
 refine c6.of (V:=vEa N 34 (aky N m)) (fn:=f101) func101 ac (zuw N 34) rfl ?_;show zzg N m;rw[alo];try delta sQ ql qu tZ qm qv qB qk qo oi vg lU q9 qi vK oH lp lg qtj mw qj uP
 simp only[SZ];simp only[oR,w8,wg,w6,iL];have s3:=f.a6;refine⟨Mh (nF _ f.eA),Mh (nF _ f.aa),Mh (nF _ f.lT),⟨0,O,rfl,ap⟩,λi k=>⟨O,λhlt=>?_,λhge=>?_⟩⟩;have hn:(m.a6.take i).length=i:=by rw[xr];omega
 have e:m.a6.take (i+1)=m.a6.take i++[m.a6.getD i []]:=by
  rw[List.take_add_one,x7,xe hlt];rfl
 refine⟨hlt,aju N _ (f.q i),am,⟨O,O⟩,f9,i+1,O,O,O, ?_⟩;rw[e];exact⟨ap,ap,λj h=>nS (fg N) _ [] _ _ j h⟩;rw[xu O];exact⟨rfl,rfl,λ_ _=>rfl⟩
end
end Go.Proofs.S25
namespace Go.AV
open Go.RowKit
theorem zux {P:Program} {id:Nat} {ops:Array Oper} {Q:Exit ->Act ->World ->Prop} {a:Act} {w:World} (I:(Nat ->Bool) ->Act ->World ->Prop)
 (j:(sj .any ops.toList&&(sj .text ops.toList&&sj .gc ops.toList))=true) (h0:I (λ_=>false) a {w with drawn:=w.drawn+1})
 (J:∀ (D:Nat ->Bool) (i:Nat) (o:Oper) (a:Act) (w:World),ops[i]? =some o ->D i=false ->(∀ e∈o.after.toList,Region.binds .any e=true ->D e.on=true) ->I D a w ->
  o.guard=none/\o.wp P a w (I λk=>D k || Nat.beq k i) Q)
 (F:∀ (D:Nat ->Bool) (a:Act) (w:World),(∀ k,k<ops.size ->D k=true) ->I D a w ->Q .normal a w):(Code.region id ops true).wp P Q a w:=by
 have V:∀ u (m:Nat) (U:List Nat) (listed:Array Bool) (a:Act) (w:World),U.length=m ->U.Nodup ->listed.size=ops.size ->(∀ k,k<ops.size ->(listed.getD k true=false↔k∈U)) ->
  I (λk=>listed.getD k false) a w ->wpAny P u ops Q m listed a w:=by
  intro u;have anyB:∀ e:Edge,Region.binds .any e=true ->Region.binds u e=true:=by
   intro e he;have⟨on,g⟩:=e;cases g<;>simp_all [Region.binds]
  have x:∀ (listed:Array Bool) (i:Nat),listed.size=ops.size ->(i∈Region.ready u ops listed↔∃ o,ops[i]? =some o/\listed.getD i true=false/\∀ e∈o.after.toList,Region.binds u e=true ->listed.getD e.on false=true):=by
   intro listed i f;simp only[Region.ready,yh,yl,xa,xi];constructor;rintro⟨h1,E,K⟩;have ho:ops[i]? =some ops[i]:=by simp[h1]
   rw[ho]at K;simp only[gj,yj,j3]at K;exact⟨_,ho,E,λe he H=>by
    have :=K e (by simpa using he);simpa [H]using this⟩
   rintro⟨o,ho,E,K⟩;refine⟨(xj.1 ho).1,E, ?_⟩;rw[ho];simp only[gj,yj,j3];intro e he;by_cases H:Region.binds u e=true;simp[K e (by simpa using he) H];simp[H]
  have y:∀ (listed:Array Bool) (k:Nat),k<listed.size ->listed.getD k true=listed.getD k false:=by
   intro l k hk;simp[xb,hk]
  have stop:∀ (listed:Array Bool),listed.size=ops.size ->Region.ready u ops listed=[] ->∀ k,k<ops.size ->listed.getD k false=true:=by
   intro listed f hr;have a1:sj u ops.toList=true:=by
    simp only[xa]at j;cases u<;>first |exact j.1 |exact j.2.1 |exact j.2.2
   have⟨rk,Y⟩:=zao a1;suffices h:∀ (r k:Nat),rk k=r ->k<ops.size ->listed.getD k false=true from λk=>h _ k rfl;intro r;induction r using Nat.strongRecOn with
   |_ r ih=>
    intro k hkr hk;cases hl:listed.getD k false with
    |true=>rfl
    |false=>
     have ho:ops[k]? =some ops[k]:=by simp[hk]
     have :k∈Region.ready u ops listed:=(x listed k f).2 ⟨_,ho,by rw[y _ _ (by omega)];exact hl,λe he H=>by
      have⟨h1,E⟩:=Y k _ ap e he H;exact ih (rk e.on) (by omega) e.on rfl (by simpa using E)⟩
     rw[hr]at this;cases this
  intro m;induction m with
  |zero=>
   intro U listed a w hU _ f hl R;obtain rfl:U=[]:=xz hU;have hr:Region.ready u ops listed=[]:=by
    cases X:Region.ready u ops listed with
    |nil=>rfl
    |cons i l=>
     have⟨o,ho,E,_⟩:=(x listed i f).1 (by rw[X];simp);have :=(hl i (xj.1 ho).1).1 E;cases this
   exact⟨hr,F _ a w (stop listed f hr) R⟩
  |succ m ih=>
   intro U listed a w hU hnd f hl R;refine⟨λhr=>F _ a w (stop listed f hr) R,λi hi=>?_⟩;have⟨o,ho,E,K⟩:=(x listed i f).1 hi;have a2:i<ops.size:=(xj.1 ho).1;have⟨hg,hw⟩:=J _ i o a w ho (by rw[<- y _ _ (by omega)];exact E) (λe he H=>K e he (anyB e H)) R;have hD:(λk=>listed.getD k false || Nat.beq k i)=λk=>(listed.setIfInBounds i true).getD k false:=by
    funext k;simp only[xb,Array.getElem?_setIfInBounds];by_cases hk:i=k;subst hk;simp[show i<listed.size by omega];have :Nat.beq k i=false:=by
     cases e:Nat.beq k i with
     |false=>rfl
     |true=>exact absurd (xc e).symm hk
    simp[hk,this]
   unfold wpOp;rw[ho];simp only[];rw[x9 (by simp[Region.wanted,hg])];refine .inl (Oper.wp_mono (λa' w' N=>?_) hw);rw[hD]at N;have iU:i∈U:=(hl i a2).1 E;refine ih (U.erase i) _ a' w' (by rw[List.length_erase_of_mem iU,hU];rfl) (hnd.erase i) (by simpa using f) (λk hk=>?_) N;rw[hnd.mem_erase_iff,<- hl k hk];simp only[xb,Array.getElem?_setIfInBounds];by_cases hki:i=k;subst hki;simp[show i<listed.size by omega];simp[hki,Ne.symm hki]
 have start:∀ u,wpAny P u ops Q ops.size (Array.replicate ops.size false) a {w with drawn:=w.drawn+1}:=by
  intro u;have Z:(λk=>(Array.replicate ops.size false).getD k false)=λ_=>false:=by
   funext k;simp only[xb,Array.getElem?_replicate];split<;>simp
  refine V u ops.size (List.range ops.size) _ a _ ap List.nodup_range ap (λk hk=>?_) (by rw[Z];exact h0);simp[xb,hk]
 refine wp_region_draw λt=>?_;unfold Region.schedule;split;exact wpAny_sound _ _ _ _ _ (start .any);exact wpAny_sound _ _ _ _ _ (start _)
end Go.AV
namespace Go.Proofs.S25
open Go Go.AV Tryz Go.RowKit
variable {w:World} {w':World} {F:Nat ->Prop} {F':Nat ->Prop} {v:Value} (N:Nat ->Prop) (m:i8) (c:Int) (id:Int)
def zjv:Nat ->Code ->Code
 |0, .seq a _=>a
 |k+1, .seq a b=> .seq a (zjv k b)
 |_,_=> .skip
def vY:Nat ->Code ->Code
 |0, .seq _ b=>b
 |k+1, .seq _ b=>vY k b
 |_,c=>c
theorem zs9 {V:bm} {W0:AV.lw} {F0:Nat ->Prop} {i:Exit ->Act ->World ->Prop} (u:gn V.C) (m:dW V.C V.CC) (J:∀ k,V.cut k=none):∀ (k:Nat) (c:Code) (st:St) (Q:Exit ->St ->Prop) (a:Act) (w:World) (F:Nat ->Prop) (φ:Nat ->AV.Place),vc V (zjv k c) st Q ->li V.C W0 F0 st a w F φ ->
 (∀ e f a w F φ,li V.C W0 F0 f a w F φ ->Q e f ->Exit.then ((vY k c).wp V.C.P i) i e a w) ->c.wp V.C.P i a w:=by
 intro k;induction k with
 |zero=>
  intro c st Q a w F φ h j hK;cases c with
  |seq x y=>exact wp_seq (wp_mono (YL u m x st Q a w F φ h j) λe a w ⟨f,F',r,h1,s⟩=>hK e f a w F' r h1 s)
  |_=>exact hK .normal st a w F φ j h
 |succ k H=>
  intro c st Q a w F φ h j hK;cases c with
  |seq x y=>
   refine wp_seq (wp_mono (YL u m x st _ a w F φ (zv2 J h) j) ?_);rintro e E w' ⟨f,F',r,h1,s⟩;cases e with
   |normal=>exact H y f Q E w' F' r s h1 hK
   |_=>exact hK _ f E w' F' r h1 s
  |_=>exact hK .normal st a w F φ j h
theorem zbj {k:Int} (h:au w F v (.int .i64 k)):v= .int .i64 k/\aM .i64 k:=by
 cases h with |int _ _ h=>exact⟨rfl,h⟩
def qU:AV ->Bool
 | .any | .int _ _ | .bool _ | .ax | .dj | .own _ _ | .ptr _ _ | .bq _ _ _=>true
 |_=>false
theorem zg3 {x:AV} (h:au w F v x) (e:qU x):au w' F' v x:=by
 cases h with
 |any _ h=>exact .any _ h
 |int _ _ h=>exact .int _ _ h
 |bool=>exact .bool _
 |ax=>exact .ax
 |dj=>exact .dj
 |_=>exact absurd e Bool.false_ne_true
theorem zsa {φ:Nat ->AV.Place} {v:Value} {x:AV} (h:aG w F φ v x) (j:qU x):aG w' F' φ v x:=by
 cases h with
 |stat h=>exact .stat (zg3 h j)
 |own b g n e k=>exact .own b g n e k
 |gX b e=>exact .gX b e
 |ptr b g p e f=>exact .ptr b g p e f
 |bq b g i p e f=>exact .bq b g i p e f
 |_=>exact absurd j Bool.false_ne_true
def WM:List (Nat×AV) ->List (Nat×AV)
 | []=>[]
 | (k,x)::l=>(k,match qU x with |true=>x |false=> .when false .any)::WM l
theorem zsb:∀ {l:List (Nat×AV)} {s:Nat} {x:AV},AV.get (WM l) s=some x ->∃ y,AV.get l s=some y/\((x=y/\qU y=true)∨x= .when false .any)
 | (k,y)::l,s,x,h=>by
  simp[WM,AV.get]at h ⊢
  split at h
  rename_i e
  cases h
  refine⟨y,rfl, ?_⟩
  cases f:qU y<;>simp
  exact zsb h
theorem zsc {s:Nat} {x:AV} (e:qU x):∀ {l:List (Nat×AV)},AV.get l s=some x ->AV.get (WM l) s=some x
 | (k,y)::l,h=>by
  simp[WM,AV.get]at h ⊢
  split at h
  cases h;rw[e]
  exact zsc e h
def hlC:ar ->Prop
 | .cell _ sh x=>∀ j,j<sh.size ->qU (z6 sh x j)=true
 | .row _ sh n f=>∀ i,i<n ->∀ j,j<sh.size ->qU (z6 sh (f i) j)=true
theorem z24.hl {φ:Nat ->AV.Place} {B:Nat ->Prop} {b:Nat} {c:ar} (h:z24 w F φ B b c) (M:hlC c) (m:∀ g,(φ b).bV=some g ->w'.heap[g]? =w.heap[g]? /\¬ F' g):z24 w' F' φ B b c:=by
 cases c with
 |cell U sh x=>
  have⟨H,g,J,e,y,R,u,s,r⟩:=h;exact⟨H,g,J,e,y,(m g e).2,(m g e).1.trans u,s,λj k=>zsa (r j k) (M j k)⟩
 |row ty sh n f=>
  have⟨H,E,h⟩:=h;refine⟨H,E,h.imp id ?_⟩;rintro⟨g,J,e,y,R,u,s,r,Q,N⟩;exact⟨g,J,e,y,(m g e).2,(m g e).1.trans u,s,r,Q,λi K j k=>zg3 (N i K j k) (M i K j k)⟩
def ZM (l:List (Nat×AV)):Operand ->Bool
 | .tmp t=>(AV.get l t).isSome
 |_=>true
theorem zuy {l:List (Nat×AV)} {s:Nat} {e:List Operand} (h:tA s e) (f:e.all (ZM l)):∃ y,AV.get l s=some y:=by
 induction e with
 |nil=>cases h
 |cons x r i=>
  simp only[List.all_cons,xa]at f;cases x with
  |tmp t=>
   simp only[tA,xk]at h;rcases h with h |h;have :=xc h;subst this;exact Option.isSome_iff_exists.1 f.1;exact i h f.2
  |_=>exact i h f.2
structure OpF (C:ls) (CC:FuncId ->List AV ->AV ->Prop) (ops:Array Oper) (H:List (Nat×ar)) (i:Nat) (o:Oper) (l:List (Nat×AV)) (x:AV) (ps:List Prop) (need:List Operand):Prop where
 hs:lh C CC (λ_ _=>none) ops.toList ⟨l,H⟩ o=some (⟨AV.put l (28+i) x,H⟩,ps)
 g:gT C ⟨l,H⟩ o=false
 n:ml C o=false
 wr:cV C ⟨l,H⟩ o=[]
 d:o.dst=some (28+i)
 rd:∀ s,wM ops.toList o s=(tA s need || false)
 jS:need.all (ZM l)=true
 gd:o.guard=none
section
variable {C:ls} {CC:FuncId ->List AV ->AV ->Prop} {W0:AV.lw} {F0:Nat ->Prop} {a:Act} {w:World} {F:Nat ->Prop} {φ:Nat ->AV.Place} {ops:Array Oper} {H:List (Nat×ar)} {i:Nat} {o:Oper} {l env:List (Nat×AV)} {x:AV} {ps:List Prop} {need:List Operand} {K:Act ->World ->Prop} {Q:Exit ->Act ->World ->Prop}
theorem OpF.go (h:OpF C CC ops H i o l x ps need) (hps:∀ p∈ps,p) (hT:gn C) (hCC:dW C CC) (hR:li C W0 F0 ⟨env,H⟩ a w F φ) (hl:∀ s y,AV.get l s=some y ->AV.get env s=some y)
 (hK:∀ env' a' w' F' φ',li C W0 F0 ⟨env',H⟩ a' w' F' φ' ->AV.get env' (28+i)=some x ->(∀ s,s≠28+i ->AV.get env' s=AV.get env s) ->K a' w'):o.wp C.P a w K Q:=by
 have hal:de C ops.toList o ⟨l,H⟩ ⟨env,H⟩:=⟨λs hs=>by
  rw[h.rd,jq]at hs;have⟨y,hy⟩:=zuy hs h.jS;exact hy.trans (hl s y hy).symm,λ_ _=>rfl⟩
 have⟨s2,h1,h2,_⟩:=z95 hal h.g h.hs λhn=>by rw[h.n]at hn;cases hn
 have⟨f1,f2⟩:=Ay (z4v hal ▸ h.g) h1;have hw:cV C ⟨env,H⟩ o=[]:=z6f hal ▸ h.wr;have :=C0 (Q:=Q) (ops:=ops) (K:=K) hR hT hCC h1 hps λa' w' F' φ' hR'=>hK s2.env a' w' F' φ' (hR'.alike (S':=⟨s2.env,H⟩) (λ_=>rfl) λb=>(f2 b (by rw[hw];exact yv)).symm)
  (by rw[h2 _ h.d];exact zv _ _ _) λs hs=>f1 s (by rw[h.d];exact λe=>hs (gk e).symm)
 rw[x9 (by simp[Region.wanted,h.gd])]at this;exact this
end
abbrev mr:i8:={m with a6:=m.a6.set c.toNat (m.a6.getD c.toNat []++[id])}
noncomputable def uY:Code:=match f97.body with
 |some c=>c
 |none=> .skip
noncomputable def gJ:Array Oper:=match vY 4 uY with
 | .seq (.region _ e _) _=>e
 |_=>#[]
noncomputable def o8 (i:Nat):Oper:=(gJ[i]?).getD default
def oEr (k:Nat):FuncId ->List AV ->Option AV
 |148,_=>some (.bool (match Nat.beq k 1 with |true=>ca m |false=>ca (mr m c id)))
 |101,_=>some (va m)
 |_,_=>none
def aj4:FuncId ->List AV ->Option (List ar)
 |101,_=>some (abd N m)
 |_,_=>none
noncomputable def z5c (N:Nat ->Prop) (m:i8) (n:Nat):ls:={eM n with G:=GN N,fresh:=aj4 N m,nU:=c6 prog (GN N),iZ:=λd=>Nat.beq d 37 || Nat.beq d 38}
theorem Cq (n:Nat):gn (z5c N m n):=ll (ac)
noncomputable def Yt (N:Nat ->Prop) (m:i8) (c id:Int) (n:Nat) (fz:Nat ->List Nat):bm:={C:=z5c N m n,CC:=mp prog (GN N),b9:=λk _=>oEr m c id k,inv:=λ_=>none,fz:=fz}
def aa8:AV:= .agg [.own 114688 m.eA.length, .own 114689 m.aa.length, .own 114690 m.a6.length, .own 114691 m.lT.length]
def HQ (f:Nat ->AV):List (Nat×ar):=[(8, .cell 32 zm (aa8 m)),(114688,bw m.eA),(114689,bw m.aa),(114690, .row 29 .ey m.a6.length f),(114691,bw m.lT),(6, .cell 32 zm (.agg [.ax, .ax, .ax, .ax]))]
def fN (j:Nat):AV:=fg N (m.a6.getD j [])
def fU (j:Nat):AV:=if j=c.toNat then .any else fN N m j
def S7:St:=⟨[(8, .ptr 8 []),(6, .ptr 6 []),(1,d9 c),(2,d9 id)],HQ m (fN N m)⟩
def S8:St:=⟨[(8, .ptr 8 []),(6, .ptr 6 [])],HQ m λj=>a8 (m.a6.getD j [])⟩
def SR:St:=⟨[(6, .ptr 6 []),(7,d9 (aZ m c id).2)],[(6,iY (aZ m c id).1)]⟩
def fzR (k:Nat):List Nat:=match Nat.beq k 11 with
 |true=>[114688,114689,114690,114691]
 |false=>[]
noncomputable def zzh (N:Nat ->Prop) (m:i8) (c id:Int):Prop:=fL (Yt N m c id 45 λ_=>[]) (zjv 4 uY) ⟨z87 0 [vM m,d9 c,d9 id],[]⟩ (some (ca m=true/\bC m c m.a6.length=0/\¬ id<0,S7 N m c id)) none (some (True,SR m c id))
noncomputable def zsd (N:Nat ->Prop) (m:i8) (c id:Int):Prop:=fL (Yt N m c id 45 fzR) (vY 5 uY) (S8 (mr m c id)) none none (some (True,SR m c id))
end Go.Proofs.S25
namespace Go.Proofs.S25
open Go Go.AV Tryz Go.RowKit
open Go.IntKind renaming i64 -> j6
open Go.AV.ex (ey)
noncomputable section
theorem ah0 (N:Nat->Prop) (m:i8) (c id:Int):zzh N m c id=(mp prog (GN N) (148:Nat) [AV.mc zm (aj m)] (AV.bool (ca m))/\((!ca m)=true->True/\1=(aZ m c id).snd/\vw m c id)/\((!ca m)=false->lq c/\lq c/\(yD c->↑m.a6.length<=(9223372036854775807:Int))/\lq c/\lq c/\lq c/\(uo m c=true->True/\11=(aZ m c id).snd/\vw m c id)/\(uo m c=false->(pw id=true->True/\2=(aZ m c id).snd/\vw m c id)/\(pw id=false->(c6 prog (GN N) (101:Nat) [AV.mc zm (aj m)] (AV.mc zm (AV.agg [AV.own (0:Nat) m.eA.length,AV.own (1:Nat) m.aa.length,AV.own (2:Nat) m.a6.length,AV.own (3:Nat) m.lT.length])) [ar.row (3:TypeId) ey m.eA.length λi=>d9 (m.eA.getD i (0:Int)),ar.row (3:TypeId) ey m.aa.length λi=>d9 (m.aa.getD i (0:Int)),ar.row (29:TypeId) ey m.a6.length λi=>fg N (m.a6.getD i []),ar.row (3:TypeId) ey m.lT.length λi=>d9 (m.lT.getD i (0:Int))])/\(ca m=true/\bC m c ↑m.a6.length=0/\¬id<0)/\(RR c/\RR id)/\(RR m.eA.length/\RR m.aa.length/\RR m.a6.length/\RR m.lT.length)/\(RR m.eA.length/\∀ i:Nat,i<m.eA.length->RR (d9 (m.eA.getD i 0)))/\(RR m.aa.length/\∀ i:Nat,i<m.aa.length->RR (d9 (m.aa.getD i 0)))/\(RR m.a6.length/\∀ i:Nat,i<m.a6.length->fg N (m.a6.getD i [])=fN N m i)/\RR m.lT.length/\∀ i:Nat,i<m.lT.length->RR (d9 (m.lT.getD i 0)))))):=ac
section
variable (m:i8) (c:Int) (id:Int)
def qtk:List (List Int):=m.a6.set c.toNat (m.a6.getD c.toNat []++[id])
def Z3:Nat:=(qtk m c id).length
def qtl:=Z3 m c id<=Z3 m c id
end
theorem acf (N:Nat->Prop) (m:i8) (c id:Int):zsd N m c id=(mp prog (GN N) (148:Nat) [AV.mc zm (AV.agg [a8 m.eA,a8 m.aa,aE (qtk m c id),a8 m.lT])] (AV.bool (ca (mr m c id)))/\m.eA.length<=m.eA.length/\m.aa.length<=m.aa.length/\qtl m c id/\m.lT.length<=m.lT.length/\((!ca (mr m c id))=true->True/\30=(aZ m c id).snd/\(aZ m c id).fst.eA.length=0/\(aZ m c id).fst.aa.length=0/\(aZ m c id).fst.a6.length=0/\(aZ m c id).fst.lT.length=0)/\((!ca (mr m c id))=false->m.eA.length<=m.eA.length/\m.aa.length<=m.aa.length/\qtl m c id/\m.lT.length<=m.lT.length/\m.eA.length<=m.eA.length/\m.aa.length<=m.aa.length/\qtl m c id/\m.lT.length<=m.lT.length/\True/\0=(aZ m c id).snd/\(m.eA.length=(aZ m c id).fst.eA.length/\∀ i:Nat,i<m.eA.length->d9 (m.eA.getD i 0)=d9 ((aZ m c id).fst.eA.getD i 0))/\(m.aa.length=(aZ m c id).fst.aa.length/\∀ i:Nat,i<m.aa.length->d9 (m.aa.getD i 0)=d9 ((aZ m c id).fst.aa.getD i 0))/\(Z3 m c id=(aZ m c id).fst.a6.length/\∀ i:Nat,i<Z3 m c id->a8 ((qtk m c id).getD i [])=a8 ((aZ m c id).fst.a6.getD i []))/\m.lT.length=(aZ m c id).fst.lT.length/\∀ i:Nat,i<m.lT.length->d9 (m.lT.getD i 0)=d9 ((aZ m c id).fst.lT.getD i 0))):=ac
theorem ajt:vY 4 uY= .seq (.region 8 gJ true) (vY 5 uY):=ac
theorem zuz (l:List (List Int)) (x:Int):∀ c,c<l.length ->(l.set c (l.getD c []++[x])).flatten.Perm (x::l.flatten):=by
 induction l with
 |nil=>intro c e;exact absurd e (jo _)
 |cons q l f=>
  intro c e;cases c with
  |zero=>
   simp only[List.set_cons_zero,List.getD_cons_zero,List.flatten_cons,wq,List.singleton_append];exact List.perm_middle
  |succ c=>
   simp only[List.set_cons_succ,List.getD_cons_succ,List.flatten_cons];exact((f c (by simpa using e)).append_left q).trans List.perm_middle
theorem zzi (m:i8) (c id:Int) (e:c.toNat<m.a6.length):(kw (mr m c id)).Perm (id::kw m):=
 ((zuz m.a6 id c.toNat e).append_left m.lT).trans List.perm_middle
theorem zse (m:i8) (id:Int):nt m id=true↔id∈kw m:=by grind[nt,kw,aQ,List.mem_flatten]
theorem aja {m:i8} {c id:Int} (i:ca m) (j:c.toNat<m.a6.length) (e:0<=id):ca (mr m c id)=!nt m id:=by
 have M:=z47.1 i;have P:=zzi m c id j;rw[wk,xi,<- jy,zse,z47];constructor;intro E;have :=P.nodup_iff.1 E.nd;grind;intro h;refine⟨M.eA,M.aa,by show(m.a6.set _ _).length<=4;rw[yy];exact M.a6,M.mO,M.uZ,M.own,λx f=>?_,P.nodup_iff.2 (List.nodup_cons.2 ⟨h,M.nd⟩)⟩;rcases xv.1 (P.mem_iff.1 f)with rfl |h;exact e;exact M.pos x h
theorem aic (N:Nat ->Prop) (m:i8) (c id:Int) (f:dk m):zzh N m c id:=by
 rw[ah0];try delta vw qj1 yD lq uo pw
 simp only[SZ];have s3:=f.a6;have bad:∀ n:Int,aZ m c id=(du,n) ->n=(aZ m c id).2/\(aZ m c id).1.eA.length=0/\(aZ m c id).1.aa.length=0/\(aZ m c id).1.a6.length=0/\(aZ m c id).1.lT.length=0:=λn h=>by rw[h];exact⟨rfl,rfl,rfl,rfl,rfl⟩
 refine⟨more (lu m f.wo),λh=>bad _ (by unfold aZ;rw[zhp h,x9 am]),λh=>⟨λ_=>O,λh1=>bad _ (by unfold aZ;rw[po h,x9 h1,x9 am]),λh1=>?_⟩⟩;have h0:bC m c m.a6.length=0:=by rw[po h,x8 O]
 exact⟨λh2=>bad _ (by unfold aZ;rw[x8 (λe=>e h0),x9 h2]),λh2=>⟨aim N m f,⟨h,h0,h2⟩,λ_ _=>rfl⟩⟩
theorem ajx (N:Nat ->Prop) (m:i8) (c id:Int) (f:dk m) (u:ca m) (j:bC m c m.a6.length=0) (k:¬ id<0):zsd N m c id:=by
 rw[acf];try delta qtk Z3 qtl
 simp only[SZ];have x:=(kM j).2;have i:=aja u (c:=c) (id:=id) O O;have P:=(zzi m c id O).length_eq;have s5:=f.all;refine⟨more (aaz (mr m c id) f.eA f.aa (by show(m.a6.set _ _).length<=_;rw[yy];exact f.a6) f.lT (λ_=>by rw[P];simp only[yp];omega)),λh=>?_,λh=>?_⟩;rw[i]at h;have e:aZ m c id=(du,30):=by unfold aZ;rw[x8 (λe=>e j),x8 k,x9 (by simpa using h)]
 rw[e];exact⟨rfl,rfl,rfl,rfl,rfl⟩;rw[i]at h;have e:aZ m c id=(mr m c id,0):=by unfold aZ;rw[x8 (λe=>e j),x8 k,x8 (by simpa using h)]
 rw[e];exact⟨rfl,⟨rfl,λ_ _=>rfl⟩,⟨rfl,λ_ _=>rfl⟩,⟨rfl,λ_ _=>rfl⟩,rfl,λ_ _=>rfl⟩
end
end Go.Proofs.S25
namespace Go.Proofs.S25
open Go Go.AV Tryz Go.RowKit
variable (N:Nat ->Prop) (m:i8)
section
variable {N:Nat ->Prop} {m:i8} {c id:Int} {W0:AV.lw} {F0:Nat ->Prop} {a:Act} {w:World} {F:Nat ->Prop} {φ:Nat ->AV.Place} {env:List (Nat×AV)} {f f':Nat ->AV}
theorem JE {b:Nat} {x:ar} (h:AV.get (HQ m f') b=some x):∃ y,AV.get (HQ m f) b=some y/\x.isRow=y.isRow/\((x=y/\hlC y)∨(b=114690/\y= .row 29 .ey m.a6.length f/\x= .row 29 .ey m.a6.length f')):=by
 simp[HQ,AV.get]at h ⊢;have k:∀ l:List Int,hlC (bw l):=λl i k j e=>rfl;cases H:Nat.beq 8 b with
 |true=>
  simp only[H]at h ⊢;cases h;exact⟨_,rfl,rfl, .inl ⟨rfl,λj e=>match j,e with
   |0,_ |1,_ |2,_ |3,_=>rfl
   |j+4,e=>absurd e (by show ¬ j+4<4;omega)⟩⟩
 |false=>
 simp[H]at h ⊢;cases F:Nat.beq 114688 b with
 |true=>simp only[F]at h ⊢;cases h;exact⟨_,rfl,rfl, .inl ⟨rfl,k _⟩⟩
 |false=>
 simp[F]at h ⊢;cases E:Nat.beq 114689 b with
 |true=>simp only[E]at h ⊢;cases h;exact⟨_,rfl,rfl, .inl ⟨rfl,k _⟩⟩
 |false=>
 simp[E]at h ⊢;cases r:Nat.beq 114690 b with
 |true=>simp only[r]at h ⊢;cases h;exact⟨_,rfl,rfl, .inr ⟨(xc r).symm,rfl,rfl⟩⟩
 |false=>
 simp[r]at h ⊢;cases u:Nat.beq 114691 b with
 |true=>simp only[u]at h ⊢;cases h;exact⟨_,rfl,rfl, .inl ⟨rfl,k _⟩⟩
 |false=>
 simp[u]at h ⊢;cases s:Nat.beq 6 b with
 |true=>
  simp only[s]at h ⊢;cases h;exact⟨_,rfl,rfl, .inl ⟨rfl,λj e=>match j,e with
   |0,_ |1,_ |2,_ |3,_=>rfl
   |j+4,e=>absurd e (by show ¬ j+4<4;omega)⟩⟩
 |false=>simp only[s]at h;cases h
theorem zzj {B:Nat ->Prop} {w':World} {b n:Nat} {ty:TypeId} (M:z24 w F φ B b (.row ty .ey n f)) (J:∀ g,(φ b).bV=some g ->w'.heap[g]? =w.heap[g]?) (K:∀ j,j<n ->∀ v,au w F v (z6 .ey (f j) 0) ->au w' F v (z6 .ey (f' j) 0)):z24 w' F φ B b (.row ty .ey n f'):=by
 have⟨Q,e,N⟩:=M;refine⟨Q,e,N.imp id ?_⟩;rintro⟨g,R,h,H,E,y,x,u,s,r⟩;refine⟨g,R,h,H,E,(J g h).trans y,x,u,s,λi m j k=>?_⟩;obtain rfl:j=0:=by have :j<1:=k;omega
 exact K i m _ (r i m 0 k)
theorem Yb (h:li (z5c N m 45) W0 F0 ⟨env,HQ m f⟩ a w F φ) (J:∀ j,j<m.a6.length ->∀ v,au w F v (z6 .ey (f j) 0) ->au w F v (z6 .ey (f' j) 0)):li (z5c N m 45) W0 F0 ⟨env,HQ m f'⟩ a w F φ:=by
 refine⟨h.env,λb x E=>?_,λb R x Y g Q K=>?_,h.ro,h.base,h.sub,h.new,h.dfr,h.iC,h.ol,λb p k=>?_⟩;have⟨y,i,_,e⟩:=JE (f:=f) E;have k:=h.heap b y i;rcases e with⟨rfl,_⟩ | ⟨rfl,rfl,rfl⟩
 exact k;exact zzj k (λ_ _=>rfl) J;have⟨y,i,_⟩:=JE (f:=f) Q;have⟨H,u,_⟩:=JE (f:=f) K;exact h.inj b R y H g i u;have⟨X,V,U⟩:=h.gV b p k;exact⟨X,V,λx E=>by
  have⟨y,i,e,_⟩:=JE (f:=f) E;rw[e];exact U y i⟩
theorem acm {s:Nat} {v:Value} (e:a.tmps.size=45) (hs:s<45):(a.put (some s) v).tmps[s]? =some v:=by simp[Act.put,e,hs]
theorem aiq {s t:Nat} {v:Value} (e:t≠s):(a.put (some s) v).tmps[t]? =a.tmps[t]? :=by
 simp[Act.put];rw[ws (Ne.symm e)]
theorem agv (h:li (z5c N m 45) W0 F0 ⟨env,HQ m (fN N m)⟩ a w F φ) (hL:∀ k,¬ W0.L k) (hA:∀ b,W0.A b=none) (hG:∀ g x,AV.get (GN N) g=some x ->au W0.w F0 (.pointer (some ⟨g,0,none⟩)) x) (a2:∀ k,F0 k ->k<W0.w.heap.size)
 {g:Nat} {J:Array Value} (V:F g) (hN:¬ F0 g) (U:∀ j,j<m.a6.length ->j≠c.toNat ->∀ u,au w F u (fN N m j) ->au (w.setRow g J) F u (fN N m j)) {X:Value} {x:AV} (Y:au (w.setRow g J) F X x):
 li (z5c N m 45) W0 F0 ⟨AV.put (WM env) 38 x,HQ m (fU N m c)⟩ (a.put (some 38) X) (w.setRow g J) F φ:=by
 have a4:W0.w.heap.size<=g:=by
  rcases h.new g V with H |H |H;exact(hN H).elim;exact H;exact(hL g H).elim
 have K:∀ b y gb,AV.get (HQ m (fN N m)) b=some y ->(φ b).bV=some gb ->(w.setRow g J).heap[gb]? =w.heap[gb]? /\¬ F gb:=λb y gb Q E=>by
  have :=((h.heap b y Q).lt E).2.1;exact⟨pC λe=>this (e ▸ V),this⟩
 refine⟨λs y hs=>?_,λb y hy=>?_,λb b' y y' gg H h2=>?_,λk R=>by rw[setRow_size];exact h.ro k R, ?_,h.sub,h.new,h.dfr, ?_,λs y hs=>?_,λb p Q=>by rw[hA b]at Q;cases Q⟩;by_cases e:s=38;subst e;simp only[zv,xq]at hs;subst hs;exact⟨X,acm h.iC am, .stat Y⟩;simp only[zb _ _ _ _ e]at hs;have⟨Z,i,e0⟩:=zsb hs;have⟨v,H,h2⟩:=h.env s Z i;refine⟨v,by rw[aiq e];exact H, ?_⟩;rcases e0 with⟨rfl,hl⟩ |rfl
 exact zsa h2 hl;exact .eZ false (λh=>by cases h) λ_=> .inr rfl;have⟨Z,i,_,e⟩:=JE (f:=fN N m) hy;have Q:=h.heap b Z i;rcases e with⟨rfl,hl⟩ | ⟨rfl,rfl,rfl⟩
 exact z24.hl Q hl λgb E=>K b _ gb i E;refine zzj Q (λgb E=>(K _ _ gb i E).1) λj hj v Y=>?_;unfold fU;by_cases e:j=c.toNat;rw[x9 e];exact .any _ (Y.one rfl);rw[x8 e];exact U j hj e v Y;have⟨z,hz,_⟩:=JE (f:=fN N m) H;have⟨z',a1,_⟩:=JE (f:=fN N m) h2;exact h.inj b b' z z' gg hz a1;exact h.base.trans (L':=λk=>k=g) ⟨rfl,rfl,rfl,by rw[setRow_size];exact xm _,λk _ R=>pC R⟩ λi hi a3=>by subst hi;omega
 show(a.tmps.setIfInBounds 38 X).size=45;rw[Array.size_setIfInBounds];exact h.iC;exact(hG s y hs).keep (λk R=>(pC λe:k=g=>hN (e ▸ R)).trans (h.base.block k (a2 k R) (hL k))) h.sub
end
def g9 (id:Int) (i:Nat):AV:=List.getD (List.set (List.replicate 1 (d9 0)) 0 (aq (d9 id))) i AV.any
def fx (c id:Int):Nat ->Option AV
 |0 |3=>some (.ptr 8 [2])
 |1 |4=>some (.own 114690 m.a6.length)
 |2 |5=>some (d9 c)
 |6 |11=>some (.bq 114690 c.toNat [])
 |7=>some (fN N m c.toNat)
 |8=>some (d9 id)
 |9=>some (.seq .ey 1 (g9 id))
 |10=>some (a8 (m.a6.getD c.toNat []++[id]))
 |_=>none
abbrev CCN:=mp prog (GN N)
abbrev nY (f:Nat ->AV) (i:Nat) (l:List (Nat×AV)) (x:AV) (ps:List Prop) (need:List Operand):Prop:=OpF (z5c N m 45) (CCN N) gJ (HQ m f) i (o8 i) l x ps need
section
variable (N:Nat ->Prop) (m:i8) (c id:Int) (f:Nat ->AV)
theorem p0:nY N m f 0 [(8, .ptr 8 [])] (.ptr 8 [2]) [] [.tmp 8]:=⟨ac,ac,ac,ac,ac,λs=>ac,ac,ac⟩
theorem p1:nY N m f 1 [(28, .ptr 8 [2])] (.own 114690 m.a6.length) [] [.tmp 28]:=⟨ac,ac,ac,ac,ac,λs=>ac,ac,ac⟩
theorem p2:nY N m f 2 [(1,d9 c)] (d9 c) [] [.tmp 1]:=⟨ac,ac,ac,ac,ac,λs=>ac,ac,ac⟩
theorem p3:nY N m f 3 [(8, .ptr 8 [])] (.ptr 8 [2]) [] [.tmp 8]:=⟨ac,ac,ac,ac,ac,λs=>ac,ac,ac⟩
theorem p4:nY N m f 4 [(31, .ptr 8 [2])] (.own 114690 m.a6.length) [] [.tmp 31]:=⟨ac,ac,ac,ac,ac,λs=>ac,ac,ac⟩
theorem p5:nY N m f 5 [(1,d9 c)] (d9 c) [] [.tmp 1]:=⟨ac,ac,ac,ac,ac,λs=>ac,ac,ac⟩
theorem p6:nY N m f 6 [(32, .own 114690 m.a6.length),(33,d9 c)] (.bq 114690 c.toNat []) [af c m.a6.length] [.tmp 32, .tmp 33]:=⟨ac,ac,ac,ac,ac,λs=>ac,ac,ac⟩
theorem p7:nY N m (fN N m) 7 [(34, .bq 114690 c.toNat [])] (fN N m c.toNat) [c.toNat<m.a6.length] [.tmp 34]:=⟨ac,ac,ac,ac,ac,λs=>ac,ac,ac⟩
theorem p8:nY N m f 8 [(2,d9 id)] (d9 id) [] [.tmp 2]:=⟨ac,ac,ac,ac,ac,λs=>ac,ac,ac⟩
theorem p9:nY N m f 9 [(36,d9 id)] (.seq .ey 1 (g9 id)) [1*ex.ey.size<=16777216] [.tmp 36]:=⟨ac,ac,ac,ac,ac,λs=>ac,ac,ac⟩
theorem p11:nY N m f 11 [(29, .own 114690 m.a6.length),(30,d9 c)] (.bq 114690 c.toNat []) [af c m.a6.length] [.tmp 29, .tmp 30]:=⟨ac,ac,ac,ac,ac,λs=>ac,ac,ac⟩
theorem p10 (n:Nat) (g h:Nat ->AV):nY N m f 10 [(35, .bD .ey n g),(37, .seq .ey 1 h)] (.seq .ey (n+1) λi=>if i<n then g i else h (i - n)) [0<1/\((n+1:Nat):Int)*(8:Nat)<=140737488355328/\n+1<=9223372036854775807] [.tmp 35, .tmp 37]:=
 ⟨ac,ac,ac,ac,ac,λs=>ac,ac,ac⟩
def f12 (j:Nat):AV:=if j=c.toNat then a8 (m.a6.getD c.toNat []++[id])else fU N m c j
def C8:List (Nat×AV):=[(38,a8 (m.a6.getD c.toNat []++[id])),(39, .bq 114690 c.toNat []),(8, .ptr 8 []),(6, .ptr 6 [])]
theorem p12:lh (z5c N m 45) (CCN N) (λ_ _=>none) gJ.toList ⟨C8 m c id,HQ m (fU N m c)⟩ (o8 12)=some (⟨C8 m c id,AV.put (HQ m (fU N m c)) 114690 (.row 29 .ey m.a6.length (f12 N m c id))⟩,[c.toNat<m.a6.length]):=ac
theorem sz8:gJ.size=13:=ac
end
def I8 (c id:Int) (W0:AV.lw) (F0:Nat ->Prop) (D:Nat ->Bool) (a:Act) (w:World):Prop:=
 z85 gJ (λk=>D k=true)/\match D 12 with
 |true=>∃ F φ,li (z5c N m 45) W0 F0 (S8 (mr m c id)) a w F φ
 |false=>∃ env F φ,li (z5c N m 45) W0 F0 ⟨env,HQ m (bif D 10 then fU N m c else fN N m)⟩ a w F φ/\(∀ s x,AV.get (S7 N m c id).env s=some x ->AV.get env s=some x)/\
  ∀ i x,D i=true ->(D 10&&(Nat.beq i 7 || Nat.beq i 9))=false ->fx N m c id i=some x ->AV.get env (28+i)=some x
section
variable {N:Nat ->Prop} {m:i8} {c id:Int} {W0:AV.lw} {F0:Nat ->Prop} {a:Act} {w:World} {F:Nat ->Prop} {φ:Nat ->AV.Place} {env:List (Nat×AV)} {D:Nat ->Bool} {Q:Exit ->Act ->World ->Prop}
theorem ccE:dW (z5c N m 45) (CCN N):=z9a (z5c N m 45) (λ_ _ _ _ h=>h)
theorem zg4 {s:Nat} {x:AV} (h:AV.get (S7 N m c id).env s=some x):s<28:=by
 simp[S7,AV.get]at h;grind[xc]
theorem akv {i:Nat} {o:Oper} (h:gJ[i]? =some o):o=o8 i:=by unfold o8;rw[h];rfl
theorem zn4 {i:Nat} {o:Oper} (u:z85 gJ λk=>D k=true) (x:gJ[i]? =some o) (m:∀ e∈o.after.toList,Region.binds .any e=true ->D e.on=true):z85 gJ λk=>(D k || Nat.beq k i)=true:=by
 intro k j f h e r s;simp at f ⊢;rcases f with f |f;exact .inl (u k j f h e r s);simp_all
theorem Z7 {i k:Nat} (h:k≠i):Nat.beq k i=false:=by
 cases e:Nat.beq k i with
 |false=>rfl
 |true=>exact absurd (xc e) h
theorem qR {i:Nat} {o:Oper} (Y:o=o8 i) (H:i≠10) (E:i≠12) {l:List (Nat×AV)} {x:AV} {K:List Prop} {f:List Operand} (Z:nY N m (bif D 10 then fU N m c else fN N m) i l x K f) (hx:fx N m c id i=some x) (j:∀ p∈K,p) (U:D 12=false) (u:z85 gJ λk=>(D k || Nat.beq k i)=true)
 (hI:I8 N m c id W0 F0 D a w) (hl:∀ s y,AV.get l s=some y ->AV.get (S7 N m c id).env s=some y∨∃ k,s=28+k/\D k=true/\(D 10&&(Nat.beq k 7 || Nat.beq k 9))=false/\fx N m c id k=some y):
 o.wp prog a w (I8 N m c id W0 F0 λk=>D k || Nat.beq k i) Q:=by
 subst Y;have⟨_,hI⟩:=hI;rw[U]at hI;have⟨env,F,φ,hR,R,hf⟩:=hI;refine Z.go j (Cq N m 45) ccE hR (λs y hs=>?_) λenv' a' w' F' φ' hR' h1 h2=>⟨u, ?_⟩;rcases hl s y hs with h | ⟨k,rfl,X,k2,V⟩;exact R s y h;exact hf k y X k2 V;have J:(D 10 || Nat.beq 10 i)=D 10:=by rw[Z7 (Ne.symm H),jq]
 have C8:(D 12 || Nat.beq 12 i)=false:=by rw[Z7 (Ne.symm E),jq,U]
 simp only[C8,J];refine⟨env',F',φ',hR',λs y hs=>by rw[h2 s (by have :=zg4 hs;omega)];exact R s y hs,λk y hk hk2 hk3=>?_⟩;by_cases e:k=i;grind;simp_all
end
section
variable {N:Nat ->Prop} {m:i8} {c id:Int} {W0:AV.lw} {F0:Nat ->Prop} {a:Act} {w:World} {F:Nat ->Prop} {φ:Nat ->AV.Place} {env:List (Nat×AV)} {D:Nat ->Bool} {K:Act ->World ->Prop} {Q:Exit ->Act ->World ->Prop}
theorem room {P:Program} {t ty e tb:TypeId} {i:TypeInfo} (F:P.underlying t=some (.slice e)) (J:P.info? e=some i) {g n cap:Nat} {cur:Array Value} (K:w.heap[g]? =some (.cells cur tb (0,0))) {s:Addr} {c:Nat} {u:Value} (r:i.size=1) (E:w.cell? (s.add 0)=some u) (H:u.oneCell'=true) (f:n+1<=cap) (h:n+1<=cur.size):
 (Builtin.append_ #[t,t] ty #[.slice (some ⟨g,0,none⟩) n cap, .slice (some s) 1 c]).run P w= .ok (.slice (some ⟨g,0,none⟩) (n+1) cap) (w.setRow g (cur.toList.take n++#[u].toList++cur.toList.drop (n+1)).toArray):=by
 have x:=run_firstCells_some (P:=P) w i.size 1 s 1 c [u] (by rw[r];rfl) (λj v m=>by
  match j,m with
  |0,m=>cases m;exact E)
 have k:=run_storeCells_at (P:=P) g n tb [u] 0 cur w K (by simpa using h) (λv y=>by rw[jt.1 y];exact H);rw[r]at x;simp[Builtin.append_,run_underlying F,sizeOf,typeInfo,J,Builtin.lenOf,f,x,Addr.add_lit,k,r]
theorem zn5 {l:List Int} {v:Value} (h:au w F v (fg N l)):au w F v (.bD .ey l.length λi=> .int .i64 (l.getD i 0))∨
 ∃ g cap k ty,v= .slice (some ⟨g,0,none⟩) l.length cap/\l.length+1<=cap/\0<l.length/\F g/\N g/\w.heap[g]? =some (.cells k ty (0,0))/\cap<=k.size/\∀ i,i<l.length ->k.getD i undef= .int .i64 (l.getD i 0)/\aM .i64 (l.getD i 0):=by
 unfold fg at h;generalize y:(λi=>AV.int .i64 (l.getD i 0))=f at h;generalize M:l.length=n at h ⊢;cases h with
 |fJ=>subst y;exact .inl (.ik _ _ _)
 |cz _ g o _ cap _ _ k H R Q M E s=>
  obtain⟨rfl,V,j,ty,x,e⟩:=Q;have e:cap<=j.size:=by have :cap*1<=j.size:=e;omega
  have K:∀ i,i<n ->j.getD i undef= .int .i64 (l.getD i 0)/\aM .i64 (l.getD i 0):=λi u=>by
   have U:=E i u 0 am;have r:=s i u 0 am;subst y;have r:au w F (k i 0) (.int .i64 (l.getD i 0)):=r;have⟨Y,X⟩:=zbj r;have J:w.cell? ⟨g,0+(i*1+0),none⟩=some (k i 0):=U;rw[xw,jf,wd,nq x O]at J;exact⟨(gk J).trans Y,X⟩
  by_cases m:n+1<=cap;exact .inr ⟨g,cap,j,ty,rfl,m,V,H,R,x,e,K⟩;obtain rfl:cap=n:=O;exact .inl (.bD g 0 _ _ _ k H E s)
theorem afg {v:Value} {l:List Int} (h:au w F v (.seq .ey (l.length+1) λi=>if i<l.length then d9 (l.getD i 0)else g9 id (i - l.length))):au w F v (a8 (l++[id])):=by
 unfold a8;rw[show(l++[id]).length=l.length+1 by simp];refine zjt h λi j=>?_;by_cases e:i<l.length;rw[x9 e,x7 (l:=l++[id]),ya e,<- x7];exact⟨rfl,rfl,λu f=>f⟩;obtain rfl:i=l.length:=O;rw[x8 e,yz,x7 (l:=l++[id]),y6 (xm _),yz];exact⟨rfl,rfl,λu f=>f⟩
theorem ZG {C:ls} {H:List (Nat×ar)} (h:li C W0 F0 ⟨env,H⟩ a w F φ) {s:Nat} {v:Value} {y:AV} (hs:a.tmps[s]? =some v) (i:aG w F φ v y):li C W0 F0 ⟨AV.put env s y,H⟩ a w F φ:=by
 refine⟨λt z f=>?_,h.heap,h.inj,h.ro,h.base,h.sub,h.new,h.dfr,h.iC,h.ol,h.gV⟩;by_cases e:t=s;subst e;simp[zv]at f;grind;simp[zb _ _ _ _ e]at f;exact h.env t z f
theorem aht {o:Oper} (ho:o=o8 10) (hM:jZ m) (hc:c.toNat<m.a6.length) (hq:(m.a6.getD c.toNat []).length<=1000000) (d1:aM .i64 id) (d4:∀ k,N k ->¬ F0 k) (hL:∀ k,¬ W0.L k) (hA:∀ b,W0.A b=none) (hG:∀ g x,AV.get (GN N) g=some x ->au W0.w F0 (.pointer (some ⟨g,0,none⟩)) x) (d5:∀ k,F0 k ->k<W0.w.heap.size)
 (hR:li (z5c N m 45) W0 F0 ⟨env,HQ m (fN N m)⟩ a w F φ) (d6:AV.get env 35=some (fN N m c.toNat)) (bd:AV.get env 37=some (.seq .ey 1 (g9 id)))
 (hK:∀ U a' w' F' φ',li (z5c N m 45) W0 F0 ⟨U,HQ m (fU N m c)⟩ a' w' F' φ' ->AV.get U 38=some (a8 (m.a6.getD c.toNat []++[id])) ->(∀ s x,s≠35 ->s≠37 ->s≠38 ->AV.get env s=some x ->qU x=true ->AV.get U s=some x) ->K a' w'):o.wp prog a w K Q:=by
 subst ho;have⟨c3,Y,M⟩:=hR.env 35 _ d6;have M:au w F c3 (fg N (m.a6.getD c.toNat [])):=M.kt rfl;rcases zn5 M with a7 | ⟨g,cap,cs,ty,rfl,J,h0,b6,d3,hh,d8,r⟩;refine(p10 N m (fN N m) (m.a6.getD c.toNat []).length (λi=> .int .i64 ((m.a6.getD c.toNat []).getD i 0)) (g9 id)).go (λp hp=>?_) (Cq N m 45) ccE (ZG hR Y (.stat a7)) (λs y hs=>?_) λenv' a' w' F' φ' b5 h1 h2=>?_;obtain rfl:=jt.1 hp;exact⟨am,by omega,by omega⟩;simp only[AV.get]at hs;split at hs;rename_i e;have :=xc e;subst this;cases hs;exact zv _ _ _;split at hs;rename_i e;have :=xc e;subst this;cases hs;rw[zb _ _ _ _ am];exact bd;cases hs;have⟨v,hv,hr⟩:=b5.env 38 _ h1;refine hK _ _ _ _ _ (ZG (Yb b5 λj X v hv=>?_) hv (.stat (afg (hr.kt rfl)))) (zv _ _ _) λs x a1 a2 a3 hs hx=>?_;unfold fU;by_cases e:j=c.toNat;rw[x9 e];exact .any _ (hv.one rfl);rw[x8 e];exact hv;rw[zb _ _ _ _ a3,h2 s (by omega),zb _ _ _ _ a1];exact hs;have⟨c1,b0,E⟩:=hR.env 37 _ bd;obtain⟨ad,c2,rfl,a9⟩:∃ ad c2,c1= .slice (some ad) 1 c2/\w.cell? (ad.add 0)=some (.int .i64 id):=by
  have E:=E.kt rfl;generalize d2:g9 id=gg at E;cases E with
  |seq g2 o2 _ c2 _ _ V k1 k2 k3 k4=>
   subst d2;have k5:au w F (V 0 0) (.int .i64 id):=k4 0 am 0 am;have k6:=k3 0 am 0 am;rw[(zbj k5).1]at k6;exact⟨_,_,rfl,k6⟩
 obtain⟨te,b1⟩:∃ te,aU (z5c N m 45) 3=some te/\te.sh.size=1:=⟨_,rfl,rfl⟩;have⟨dd,ie,z,e0,d0,ch,_⟩:=(Cq N m 45 _ _ b1.1).info;have H:=room (w:=w) (P:=prog) (ty:=(o8 10).type) (t:=29) Tryz.underlying29 d0 hh (ch.trans b1.2) a9 rfl J (show(m.a6.getD c.toNat []).length+1<=cs.size by omega) (c:=c2);have fin:∀ {v':Value} {w':World},(Builtin.append_ #[29,29] (o8 10).type #[a.eval (.tmp 35),a.eval (.tmp 37)]).run prog w= .ok v' w' ->K (a.put (some 38) v') w' ->(o8 10).wp prog a w K Q:=by
  intro v' w' H ci;unfold Oper.wp;have :(execOp a.eval (o8 10)).run prog w= .ok (.value v') w':=by
   refine UU (C:=z5c N m 45) (c:=⟨.builtin .append,#[.tmp 35, .tmp 37],#[29,29]⟩) (b:= .append) ac rfl ?_;simp only[builtin,Sem.run_bind];have :(#[Operand.tmp 35, .tmp 37].map a.eval)=#[a.eval (.tmp 35),a.eval (.tmp 37)]:=by simp
   rw[this];show((Builtin.append_ #[29,29] (o8 10).type #[a.eval (.tmp 35),a.eval (.tmp 37)]).run prog w).andThen _=_;rw[H];rfl
  rw[this];have hd:(o8 10).dst=some 38:=ac;show K (a.put (o8 10).dst v') w';rw[hd];exact ci
 have ev:∀ {t:Nat} {v:Value},a.tmps[t]? =some v ->a.eval (.tmp t)=v:=λh=>by
  show a.tmps.getD _ undef=_;rw[xb,h];rfl
 refine fin (by rw[ev Y,ev b0];exact H) ?_;have b4:=z7m (cur:=cs) (new:=#[Value.int .i64 id]) (off:=(m.a6.getD c.toNat []).length) (n:=1) rfl (by omega);have c4:=z68 (cur:=cs) (new:=#[Value.int .i64 id]) (off:=(m.a6.getD c.toNat []).length) (n:=1) rfl (by omega);generalize d7:(cs.toList.take (m.a6.getD c.toNat []).length++#[Value.int .i64 id].toList++cs.toList.drop ((m.a6.getD c.toNat []).length+1)).toArray=bh at b4 c4;have a4:=setRow_heap w g cs bh ty (0,0) hh;refine hK _ _ _ _ _ (agv (c:=c) (x:=a8 (m.a6.getD c.toNat []++[id])) hR hL hA hG d5 b6 (d4 g d3) (λj X ck u hu=>?_) ?_) (zv _ _ _) λs x a1 a2 a3 hs hx=>?_;have hu:au w F u (fg N (m.a6.getD j [])):=hu;show au _ F u (fg N (m.a6.getD j []));have R:=λh1=>zuv hM ck X hc h1 h0;unfold fg at hu ⊢;generalize m.a6.getD j []=lj at hu R ⊢;generalize hf:(λi=>AV.int .i64 (lj.getD i 0))=f at hu ⊢;generalize hn:lj.length=n at hu ⊢ R;cases hu with
 |fJ=>exact .fJ _ _ _
 |cz _ g2 o2 _ bk _ _ V k1 k2 k3 k4 k5 k6=>
  subst hf;have Z:g2≠g:=λe=>by
   subst e;obtain⟨rfl,a5,_⟩:=k3;have e1:=k5 0 a5 0 am;have e2:au w F (V 0 0) (.int .i64 (lj.getD 0 0)):=k6 0 a5 0 am;have e3:w.cell? ⟨g2,0,none⟩=some (V 0 0):=e1;rw[nq hh (by omega),(r 0 h0).1,(zbj e2).1]at e3;exact R a5 (Value.int.inj (gk e3)).2.symm
  exact .cz N g2 o2 n bk .ey (λi=> .int .i64 (lj.getD i 0)) V k1 k2 (by rw[pC Z];exact k3) k4 (λi hi j X=>(World.cell?_of_block (pC Z)).trans (k5 i hi j X)) λi hi j X=>zg3 (k6 i hi j X) rfl
 unfold a8;rw[show(m.a6.getD c.toNat []++[id]).length=(m.a6.getD c.toNat []).length+1 by simp];refine .seq g 0 _ cap .ey _ (λi _=>bh.getD i undef) b6 J (λi hi j X=>?_) λi hi j X=>?_;obtain rfl:j=0:=by have :j<1:=X;omega
 show World.cell? _ ⟨g,0+(i*1+0),none⟩=_;rw[xw,jf,wd];exact nq a4 (by omega);rw[b4 i];show au _ F _ (.int .i64 ((m.a6.getD c.toNat []++[id]).getD i 0));by_cases e:i<(m.a6.getD c.toNat []).length;rw[x8 (by omega),(r i e).1,x7 (l:=_++[id]),ya e,<- x7];exact .int _ _ (r i e).2;obtain rfl:i=(m.a6.getD c.toNat []).length:=by omega
 rw[x9 (by omega),yz,x7 (l:=_++[id]),y6 (xm _),yz];exact .int _ _ d1;rw[zb _ _ _ _ a3];exact zsc hx hs
end
end Go.Proofs.S25
