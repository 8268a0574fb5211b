import Derived.Test.YtcfagpelpjdmaaaGreatDoorXzk
import Derived.Test.YtcfagpelpjdmaaaGreatDoorXg
import Derived.Laws.AppendOwn
namespace Go.Proofs.S25
open Go Go.AV Go.RowKit
open Go.IntKind renaming i64 -> j6
open Go.AV.Shape (leaf)
noncomputable section
variable {N:Nat ->Prop} {f:FuncId} {args:List AV}
theorem ao3:KN 225 [ab []] .aA:=by
 refine Kn (afb 7) Tryz.func225 ((0:Nat)=(0:Nat)/\True) ?_
 exact⟨rfl,trivial⟩
theorem more {r:AV} (h:KN f args r):aL Tryz.prog (GN N) f args r:=
 h.imp_left λh=>⟨h.1,λw F e a b=>h.2 w F e a λg x i=>b g x (zju i)⟩
theorem Ol {r:AV} {cs:List aw} (h:KF f args r cs):cd Tryz.prog (GN N) f args r cs:=
 ⟨h.1,λw F e a b=>h.2 w F e a λg x i=>b g x (zju i)⟩
theorem anw {ty:TypeId} {sh:Shape} {n:Nat} {g:Nat ->AV} (h:KF f args (.own 0 n) [.row ty sh n g]) (h0:0<n):aL Tryz.prog (GN N) f args (.cM N sh n g):=by
 refine .inl ⟨h.1,λw F Y O u M hr=>(h.2 w F Y O (λg x o=>u g x (zju o)) M hr).mono ?_⟩
 rintro en w' ⟨v,F',V,rfl,hb,W,f2,f3,Z,H,_⟩
 have E:∀ k,F k∨N k:=by
  have :=u abf (.lh N) rfl
  cases this with |lh _ _ _ h=>exact h
 obtain⟨a0,_,⟨h1,h2⟩ | ⟨U,X,y,hB,Q,R,z,a1,_,r⟩⟩:=H 0 _ rfl
 . omega
 rcases Z.e9 with⟨g2,o,rfl,hc⟩ | ⟨o,_,_⟩
 . rw[y]at o
   cases o
   refine⟨_,λk=>F' k∨k=U,rfl,hb,λk m=> .inl (W k m),λk m=>m.elim (f2 k) λe=> .inr (e ▸ hB),λk m=>m.elim (f3 k) λe=>e ▸ (xi.1 R).1, ?_⟩
   have lt:∀ i,i<n ->∀ j,j<sh.size ->i*sh.size+j<(V 0).cap*sh.size:=λi K j J=>by
    have s:=xn sh.size (show i+1<=(V 0).cap by omega)
    rw[yb]at s;omega
   refine .cM N U 0 n _ sh g (λi j=>X.getD (i*sh.size+j) undef) (.inr rfl) ((E U).resolve_left λhF=>Q (W _ hF)) ⟨rfl,h0,X,_,R,by rw[z];exact xm _⟩ hc (λi K j J=>?_) λi K j J=>?_
   . rw[xy];exact oW R (by rw[z];exact lt i K j J)
   . exact(r i K j J).keep (λ_ _=>rfl) λk m=> .inl m
 . rw[y]at o;cases o
theorem alc (N:Nat ->Prop) (l:List Int) (hl:l.length<=1000000):aL Tryz.prog (GN N) 225 [ab l] (gK N l):=by
 cases l with
 |nil=>exact(more ao3).imp λw F v h=>by cases h;exact .im _ _ _
 |cons x l=>exact anw (qL (x::l) hl) (be)
section
variable (N:Nat ->Prop) (m:Mem) (x2:Nat) (x3:Nat)
def qtj:=gK N ((List.take x2 m.aa).getD x3 [])
end
theorem akw (N:Nat->Prop) (m:Mem):zzg N m=((cd Tryz.prog (GN N) (225:Nat) [ab m.vars] (AV.own (0:Nat) m.vars.length) [aw.row (3:TypeId) leaf (ql m) λi=>qu m i])/\(cd Tryz.prog (GN N) (225:Nat) [ab m.ae] (AV.own (0:Nat) m.ae.length) [aw.row (3:TypeId) leaf (qm m) λi=>qv m i])/\(cd Tryz.prog (GN N) (225:Nat) [ab m.sig] (AV.own (0:Nat) m.sig.length) [aw.row (3:TypeId) leaf (qk m) λi=>qo m i])/\(∃ (i:Nat),i<=List.length (Mem.aa m)/\(0:Int)=(↑i:Int)/\LS (ao m) (ao m)/\((0:Nat)=(0:Nat)/\(0:Nat)=(0:Nat)/\(0:Nat)=(0:Nat)/\(0:Nat)=(0:Nat))/\(RR (List.length (Mem.vars m))/\RR (List.length (Mem.ae m))/\rW m i/\RR (List.length (Mem.sig m)))/\(ql m=List.length (Mem.vars m)/\∀ (i:Nat),i<ql m->qu m i=co (List.getD (Mem.vars m) i (0:Int)))/\(qm m=List.length (Mem.ae m)/\∀ (i:Nat),i<qm m->qv m i=co (List.getD (Mem.ae m) i (0:Int)))/\rW m i/\qk m=List.length (Mem.sig m)/\∀ (i:Nat),i<qk m->qo m i=co (List.getD (Mem.sig m) i (0:Int)))/\∀ i:Nat,i<=m.aa.length->↑m.aa.length<=(9223372036854775807:Int)/\(qj m i=true->ai (↑i) m.aa.length/\(aL Tryz.prog (GN N) (225:Nat) [ab (m.aa.getD (↑i:Int).toNat [])] (AV.cM N leaf (Cd m i).length λar=>co ((Cd m i).getD ar (0:Int))))/\1*leaf.size<=16777216/\(RR (List.take i m.aa).length/\↑(nk m i)*↑(24:Nat)<=(140737488355328:Int)/\nk m i<=9223372036854775807)/\1<=1/\aU j6 (q9 i)/\(∃ (j:Nat),j<=List.length (Mem.aa m)/\qi m j<qi m i/\q9 i=(↑j:Int)/\LS (ao m) (ao m)/\(BA/\BA/\(RR ((0:Nat))/\∀ (i:Nat),i<(0:Nat)->RR (ab (List.getD [] i [])))/\BA)/\(RR (List.length (Mem.vars m))/\RR (List.length (Mem.ae m))/\sy m i j/\RR (List.length (Mem.sig m)))/\mI m/\mG m/\(sy m i j/\∀ (ar:Nat),ar<nk m i->(if ar<List.length (List.take i (Mem.aa m))then qtj N m i ar else List.getD (List.set (List.replicate (1:Nat) AV.aA) (0:Nat) (av (gK N (Cd m i)))) (ar - List.length (List.take i (Mem.aa m))) AV.any)=qtj N m j ar)/\nT m))/\(qj m i=false->(RR m.vars.length/\RR m.ae.length/\xB m i/\RR m.sig.length)/\mI m/\mG m/\(xB m i/\∀ (ar:Nat),ar<(List.take i m.aa).length->qtj N m i ar=gK N (m.aa.getD ar []))/\nT m)):=am
theorem an9 (N:Nat ->Prop) (m:Mem) (f:dN m):cd Tryz.prog (GN N) 148 [vM m] (wY m) (M8 N m):=by
 refine cd.of (V:=vEa N 34 (abx N m)) (fn:=Tryz.f148) Tryz.func148 am (zuw N 34) rfl ?_
 show zzg N m
 rw[akw];try delta yH ql qu A4 qm qv sE qk qo rW Cd nk q9 qi BA sy mI mG qtj nT qj xB
 simp only[SZ]
 simp only[oR,wj,ym,yx,ep]
 have s3:=f.aa
 refine⟨Ol (qL _ f.vars),Ol (qL _ f.ae),Ol (qL _ f.sig),⟨0,ac,rfl,be⟩,λi k=>⟨ac,λhlt=>?_,λhge=>?_⟩⟩
 . have hn:(m.aa.take i).length=i:=by rw[xu];omega
   have e:m.aa.take (i+1)=m.aa.take i++[m.aa.getD i []]:=by
    rw[List.take_add_one,x7,xe hlt];rfl
   refine⟨hlt,alc N _ (f.q i),ap,⟨ac,ac⟩,dl,i+1,ac,ac,ac, ?_⟩
   rw[e];exact⟨be,be,λj h=>rj (gK N) _ [] _ _ j h⟩
 . rw[xv ac];exact⟨rfl,rfl,λ_ _=>rfl⟩
end
end Go.Proofs.S25
namespace Go.AV
open Go.RowKit
theorem zux {P:Program} {id:Nat} {ops:Array Oper} {Q:Exit ->Act ->World ->Prop} {a:Act} {w:World} (I:(Nat ->Bool) ->Act ->World ->Prop)
 (j:(uv .any ops.toList&&(uv .text ops.toList&&uv .gc ops.toList))=true) (h0:I (λ_=>false) a {w with drawn:=w.drawn+1})
 (F:∀ (D:Nat ->Bool) (i:Nat) (o:Oper) (a:Act) (w:World),ops[i]? =some o ->D i=false ->(∀ e∈o.after.toList,Region.binds .any e=true ->D e.on=true) ->I D a w ->
  o.guard=none/\o.wp P a w (I λk=>D k || Nat.beq k i) Q)
 (z:∀ (D:Nat ->Bool) (a:Act) (w:World),(∀ k,k<ops.size ->D k=true) ->I D a w ->Q .normal a w):(Code.region id ops true).wp P Q a w:=by
 have M:∀ s (m:Nat) (U:List Nat) (listed:Array Bool) (a:Act) (w:World),U.length=m ->U.Nodup ->listed.size=ops.size ->(∀ k,k<ops.size ->(listed.getD k true=false↔k∈U)) ->
  I (λk=>listed.getD k false) a w ->wpAny P s ops Q m listed a w:=by
  intro s
  have anyB:∀ e:Edge,Region.binds .any e=true ->Region.binds s e=true:=by
   intro e he
   have⟨on,g⟩:=e
   cases g<;>simp_all [Region.binds]
  have u:∀ (listed:Array Bool) (i:Nat),listed.size=ops.size ->(i∈Region.ready s ops listed↔∃ o,ops[i]? =some o/\listed.getD i true=false/\∀ e∈o.after.toList,Region.binds s e=true ->listed.getD e.on false=true):=by
   intro listed i f
   simp only[Region.ready,yn,yu,xa,xj]
   constructor
   . rintro⟨h1,y,H⟩
     have ho:ops[i]? =some ops[i]:=by simp[h1]
     rw[ho]at H
     simp only[gh,yq,jd]at H
     exact⟨_,ho,y,λe he E=>by
      have :=H e (by simpa using he)
      simpa [E]using this⟩
   . rintro⟨o,ho,y,H⟩
     refine⟨(xi.1 ho).1,y, ?_⟩
     rw[ho]
     simp only[gh,yq,jd]
     intro e he
     by_cases E:Region.binds s e=true
     . simp[H e (by simpa using he) E]
     . simp[E]
  have x:∀ (listed:Array Bool) (k:Nat),k<listed.size ->listed.getD k true=listed.getD k false:=by
   intro l k hk
   simp[xb,hk]
  have stop:∀ (listed:Array Bool),listed.size=ops.size ->Region.ready s ops listed=[] ->∀ k,k<ops.size ->listed.getD k false=true:=by
   intro listed f hr
   have V:uv s ops.toList=true:=by
    simp only[xa]at j
    cases s<;>first |exact j.1 |exact j.2.1 |exact j.2.2
   have⟨rk,O⟩:=zao V
   suffices h:∀ (r k:Nat),rk k=r ->k<ops.size ->listed.getD k false=true from λk=>h _ k rfl
   intro r
   induction r using Nat.strongRecOn with
   |_ r ih=>
    intro k hkr hk
    cases hl:listed.getD k false with
    |true=>rfl
    |false=>
     have ho:ops[k]? =some ops[k]:=by simp[hk]
     have :k∈Region.ready s ops listed:=(u listed k f).2 ⟨_,ho,by rw[x _ _ (by omega)];exact hl,λe he E=>by
      have⟨h1,y⟩:=O k _ (by simp) e he E
      exact ih (rk e.on) (by omega) e.on rfl (by simpa using y)⟩
     rw[hr]at this;cases this
  intro m
  induction m with
  |zero=>
   intro U listed a w X _ f hl K
   obtain rfl:U=[]:=y3 X
   have hr:Region.ready s ops listed=[]:=by
    cases N:Region.ready s ops listed with
    |nil=>rfl
    |cons i l=>
     have⟨o,ho,y,_⟩:=(u listed i f).1 (by rw[N];simp)
     have :=(hl i (xi.1 ho).1).1 y
     cases this
   exact⟨hr,z _ a w (stop listed f hr) K⟩
  |succ m ih=>
   intro U listed a w X hnd f hl K
   refine⟨λhr=>z _ a w (stop listed f hr) K,λi hi=>?_⟩
   have⟨o,ho,y,H⟩:=(u listed i f).1 hi
   have W:i<ops.size:=(xi.1 ho).1
   have⟨hg,Z⟩:=F _ i o a w ho (by rw[<- x _ _ (by omega)];exact y) (λe he E=>H e he (anyB e E)) K
   have hD:(λk=>listed.getD k false || Nat.beq k i)=λk=>(listed.setIfInBounds i true).getD k false:=by
    funext k
    simp only[xb,Array.getElem?_setIfInBounds]
    by_cases hk:i=k
    . subst hk;simp[show i<listed.size by omega]
    . have :Nat.beq k i=false:=by
       cases e:Nat.beq k i with
       |false=>rfl
       |true=>exact absurd (xc e).symm hk
      simp[hk,this]
   unfold wpOp
   rw[ho]
   simp only[]
   rw[x9 (by simp[Region.wanted,hg])]
   refine .inl (Oper.wp_mono (λa' w' J=>?_) Z)
   rw[hD]at J
   have Y:i∈U:=(hl i W).1 y
   refine ih (U.erase i) _ a' w' (by rw[List.length_erase_of_mem Y,X];rfl) (hnd.erase i) (by simpa using f) (λk hk=>?_) J
   rw[hnd.mem_erase_iff,<- hl k hk]
   simp only[xb,Array.getElem?_setIfInBounds]
   by_cases hki:i=k
   . subst hki;simp[show i<listed.size by omega]
   . simp[hki,Ne.symm hki]
 have start:∀ s,wpAny P s ops Q ops.size (Array.replicate ops.size false) a {w with drawn:=w.drawn+1}:=by
  intro s
  have R:(λk=>(Array.replicate ops.size false).getD k false)=λ_=>false:=by
   funext k
   simp only[xb,Array.getElem?_replicate]
   split<;>simp
  refine M s ops.size (List.range ops.size) _ a _ be List.nodup_range be (λk hk=>?_) (by rw[R];exact h0)
  simp[xb,hk]
 refine wp_region_draw λt=>?_
 unfold Region.schedule
 split
 . exact wpAny_sound _ _ _ _ _ (start .any)
 . exact wpAny_sound _ _ _ _ _ (start _)
end Go.AV
namespace Go.Proofs.S25
open Go Go.AV Go.RowKit
variable {w:World} {w':World} {F:Nat ->Prop} {F':Nat ->Prop} {v:Value} (N:Nat ->Prop) (m:Mem) (c:Int) (id:Int)
def zjv:Nat ->Code ->Code
 |0, .seq a _=>a
 |k+1, .seq a b=> .seq a (zjv k b)
 |_,_=> .skip
def B8:Nat ->Code ->Code
 |0, .seq _ b=>b
 |k+1, .seq _ b=>B8 k b
 |_,c=>c
theorem zs9 {V:bj} {W0:AV.Entry} {F0:Nat ->Prop} {ml:Exit ->Act ->World ->Prop} (r:cf V.C) (j:cP V.C V.CC) (z:∀ k,V.cut k=none):∀ (k:Nat) (c:Code) (st:St) (Q:Exit ->St ->Prop) (a:Act) (w:World) (F:Nat ->Prop) (φ:Nat ->AV.Place),vc V (zjv k c) st Q ->Rel V.C W0 F0 st a w F φ ->
 (∀ e f a w F φ,Rel V.C W0 F0 f a w F φ ->Q e f ->Exit.then ((B8 k c).wp V.C.P ml) ml e a w) ->c.wp V.C.P ml a w:=by
 intro k
 induction k with
 |zero=>
  intro c st Q a w F φ h i hK
  cases c with
  |seq x y=>exact wp_seq (wp_mono (z98 r j x st Q a w F φ h i) λe a w ⟨f,F',m,h1,o⟩=>hK e f a w F' m h1 o)
  |_=>exact hK .normal st a w F φ i h
 |succ k u=>
  intro c st Q a w F φ h i hK
  cases c with
  |seq x y=>
   refine wp_seq (wp_mono (z98 r j x st _ a w F φ (zv2 z h) i) ?_)
   rintro e s w' ⟨f,F',m,h1,o⟩
   cases e with
   |normal=>exact u y f Q s w' F' m o h1 hK
   |_=>exact hK _ f s w' F' m h1 o
  |_=>exact hK .normal st a w F φ i h
theorem zbj {k:Int} (h:ay w F v (.int .i64 k)):v= .int .i64 k/\aU .i64 k:=by
 cases h with |int _ _ h=>exact⟨rfl,h⟩
def uf:AV ->Bool
 | .any | .int _ _ | .bool _ | .aA | .dJ | .own _ _ | .ptr _ _ | .bB _ _ _=>true
 |_=>false
theorem zg3 {x:AV} (h:ay w F v x) (e:uf x=true):ay w' F' v x:=by
 cases h with
 |any _ h=>exact .any _ h
 |int _ _ h=>exact .int _ _ h
 |bool=>exact .bool _
 |aA=>exact .aA
 |dJ=>exact .dJ
 |_=>exact absurd e Bool.false_ne_true
theorem zsa {φ:Nat ->AV.Place} {v:Value} {x:AV} (h:aO w F φ v x) (j:uf x=true):aO w' F' φ v x:=by
 cases h with
 |stat h=>exact .stat (zg3 h j)
 |own b g n e k=>exact .own b g n e k
 |iT b e=>exact .iT b e
 |ptr b g p e f=>exact .ptr b g p e f
 |bB b g i p e f=>exact .bB b g i p e f
 |_=>exact absurd j Bool.false_ne_true
def ZT:List (Nat×AV) ->List (Nat×AV)
 | []=>[]
 | (k,x)::l=>(k,match uf x with |true=>x |false=> .when false .any)::ZT l
theorem zsb:∀ {l:List (Nat×AV)} {s:Nat} {x:AV},AV.get (ZT l) s=some x ->∃ y,AV.get l s=some y/\((x=y/\uf y=true)∨x= .when false .any)
 | (k,y)::l,s,x,h=>by
  simp[ZT,AV.get]at h ⊢
  split at h
  . rename_i e
    cases h
    refine⟨y,rfl, ?_⟩
    cases f:uf y<;>simp
  . exact zsb h
theorem zsc {s:Nat} {x:AV} (e:uf x=true):∀ {l:List (Nat×AV)},AV.get l s=some x ->AV.get (ZT l) s=some x
 | (k,y)::l,h=>by
  simp[ZT,AV.get]at h ⊢
  split at h
  . cases h;rw[e]
  . exact zsc e h
def hlC:aw ->Prop
 | .cell _ sh x=>∀ j,j<sh.size ->uf (z6 sh x j)=true
 | .row _ sh n f=>∀ i,i<n ->∀ j,j<sh.size ->uf (z6 sh (f i) j)=true
theorem z24.hl {φ:Nat ->AV.Place} {B:Nat ->Prop} {b:Nat} {c:aw} (h:z24 w F φ B b c) (J:hlC c) (m:∀ g,(φ b).bY=some g ->w'.heap[g]? =w.heap[g]? /\¬ F' g):z24 w' F' φ B b c:=by
 cases c with
 |cell tc sh x=>
  have⟨z,g,E,e,u,N,s,r,o⟩:=h
  exact⟨z,g,E,e,u,(m g e).2,(m g e).1.trans s,r,λj k=>zsa (o j k) (J j k)⟩
 |row ty sh n f=>
  have⟨z,y,h⟩:=h
  refine⟨z,y,h.imp id ?_⟩
  rintro⟨g,E,e,u,N,s,r,o,M,K⟩
  exact⟨g,E,e,u,(m g e).2,(m g e).1.trans s,r,o,M,λi H j k=>zg3 (K i H j k) (J i H j k)⟩
def abr (l:List (Nat×AV)):Operand ->Bool
 | .tmp t=>(AV.get l t).isSome
 |_=>true
theorem zuy {l:List (Nat×AV)} {s:Nat} {e:List Operand} (h:wF s e=true) (f:e.all (abr l)=true):∃ y,AV.get l s=some y:=by
 induction e with
 |nil=>cases h
 |cons x r i=>
  simp only[List.all_cons,xa]at f
  cases x with
  |tmp t=>
   simp only[wF,xk]at h
   rcases h with h |h
   . have :=xc h
     subst this
     exact Option.isSome_iff_exists.1 f.1
   . exact i h f.2
  |_=>exact i h f.2
structure OpF (C:bt) (CC:FuncId ->List AV ->AV ->Prop) (ops:Array Oper) (H:List (Nat×aw)) (i:Nat) (o:Oper) (l:List (Nat×AV)) (x:AV) (ps:List Prop) (need:List Operand):Prop where
 hs:mN C CC (λ_ _=>none) ops.toList ⟨l,H⟩ o=some (⟨AV.put l (28+i) x,H⟩,ps)
 g:iF C ⟨l,H⟩ o=false
 n:nH C o=false
 wr:dw C ⟨l,H⟩ o=[]
 d:o.dst=some (28+i)
 rd:∀ s,AX ops.toList o s=(wF s need || false)
 lh:need.all (abr l)=true
 gd:o.guard=none
section
variable {C:bt} {CC:FuncId ->List AV ->AV ->Prop} {W0:AV.Entry} {F0:Nat ->Prop} {a:Act} {w:World} {F:Nat ->Prop} {φ:Nat ->AV.Place} {ops:Array Oper} {H:List (Nat×aw)} {i:Nat} {o:Oper} {l env:List (Nat×AV)} {x:AV} {ps:List Prop} {need:List Operand} {K:Act ->World ->Prop} {Q:Exit ->Act ->World ->Prop}
theorem OpF.go (h:OpF C CC ops H i o l x ps need) (hps:∀ p∈ps,p) (hT:cf C) (hCC:cP C CC) (hR:Rel C W0 F0 ⟨env,H⟩ a w F φ) (hl:∀ s y,AV.get l s=some y ->AV.get env s=some y)
 (hK:∀ env' a' w' F' φ',Rel C W0 F0 ⟨env',H⟩ a' w' F' φ' ->AV.get env' (28+i)=some x ->(∀ s,s≠28+i ->AV.get env' s=AV.get env s) ->K a' w'):o.wp C.P a w K Q:=by
 have hal:dG C ops.toList o ⟨l,H⟩ ⟨env,H⟩:=⟨λs hs=>by
  rw[h.rd,Bool.or_false]at hs
  have⟨y,hy⟩:=zuy hs h.lh
  exact hy.trans (hl s y hy).symm,λ_ _=>rfl⟩
 have⟨s2,h1,h2,_⟩:=z95 hal h.g h.hs λhn=>by rw[h.n]at hn;cases hn
 have⟨f1,f2⟩:=EX (z4v hal ▸ h.g) h1
 have hw:dw C ⟨env,H⟩ o=[]:=z6f hal ▸ h.wr
 have :=Vw (Q:=Q) (ops:=ops) (K:=K) hR hT hCC h1 hps λa' w' F' φ' hR'=>hK s2.env a' w' F' φ' (hR'.alike (S':=⟨s2.env,H⟩) (λ_=>rfl) λb=>(f2 b (by rw[hw];exact yd)).symm)
  (by rw[h2 _ h.d];exact zv _ _ _) λs hs=>f1 s (by rw[h.d];exact λe=>hs (gp e).symm)
 rw[x9 (by simp[Region.wanted,h.gd])]at this
 exact this
end
abbrev oc:Mem:={m with aa:=m.aa.set c.toNat (m.aa.getD c.toNat []++[id])}
noncomputable def zR:Code:=match Tryz.f156.body with
 |some c=>c
 |none=> .skip
noncomputable def iE:Array Oper:=match B8 4 zR with
 | .seq (.region _ e _) _=>e
 |_=>#[]
noncomputable def o8 (i:Nat):Oper:=(iE[i]?).getD default
def oEr (k:Nat):FuncId ->List AV ->Option AV
 |149,_=>some (.bool (match Nat.beq k 1 with |true=>cx m |false=>cx (oc m c id)))
 |148,_=>some (wY m)
 |_,_=>none
def afx:FuncId ->List AV ->Option (List aw)
 |148,_=>some (M8 N m)
 |_,_=>none
noncomputable def lr (N:Nat ->Prop) (m:Mem) (n:Nat):bt:={fj n with G:=GN N,fresh:=afx N m,r9:=cd Tryz.prog (GN N),kH:=λd=>Nat.beq d 37 || Nat.beq d 38}
theorem NL (n:Nat):cf (lr N m n):=mC (am)
noncomputable def vEr (N:Nat ->Prop) (m:Mem) (c id:Int) (n:Nat) (fz:Nat ->List Nat):bj:={C:=lr N m n,CC:=aL Tryz.prog (GN N),bb:=λk _=>oEr m c id k,inv:=λ_=>none,fz:=fz}
def acb:AV:= .agg [.own 114688 m.vars.length, .own 114689 m.ae.length, .own 114690 m.aa.length, .own 114691 m.sig.length]
def HQ (f:Nat ->AV):List (Nat×aw):=[(8, .cell 38 zm (acb m)),(114688,bI m.vars),(114689,bI m.ae),(114690, .row 31 .leaf m.aa.length f),(114691,bI m.sig),(6, .cell 38 zm (.agg [.aA, .aA, .aA, .aA]))]
def fN (j:Nat):AV:=gK N (m.aa.getD j [])
def fU (j:Nat):AV:=if j=c.toNat then .any else fN N m j
def S7:St:=⟨[(8, .ptr 8 []),(6, .ptr 6 []),(1,co c),(2,co id)],HQ m (fN N m)⟩
def S8:St:=⟨[(8, .ptr 8 []),(6, .ptr 6 [])],HQ m λj=>ab (m.aa.getD j [])⟩
def SR:St:=⟨[(6, .ptr 6 []),(7,co (b9 m c id).2)],[(6,kt (b9 m c id).1)]⟩
def fzR (k:Nat):List Nat:=match Nat.beq k 11 with
 |true=>[114688,114689,114690,114691]
 |false=>[]
noncomputable def zzh (N:Nat ->Prop) (m:Mem) (c id:Int):Prop:=cO (vEr N m c id 45 λ_=>[]) (zjv 4 zR) ⟨z87 0 [vM m,co c,co id],[]⟩ (some (cx m=true/\bM m c m.aa.length=0/\¬ id<0,S7 N m c id)) none (some (True,SR m c id))
noncomputable def zsd (N:Nat ->Prop) (m:Mem) (c id:Int):Prop:=cO (vEr N m c id 45 fzR) (B8 5 zR) (S8 (oc m c id)) none none (some (True,SR m c id))
end Go.Proofs.S25
namespace Go.Proofs.S25
open Go Go.AV Go.RowKit
open Go.IntKind renaming i64 -> j6
open Go.AV.Shape (leaf)
noncomputable section
theorem aly (N:Nat->Prop) (m:Mem) (c id:Int):zzh N m c id=(aL Tryz.prog (GN N) (149:Nat) [AV.mc zm (ao m)] (AV.bool (cx m))/\((!cx m)=true->True/\1=(b9 m c id).snd/\Cc m c id)/\((!cx m)=false->mM c/\mM c/\(Br c->↑m.aa.length<=(9223372036854775807:Int))/\mM c/\mM c/\mM c/\(Al m c=true->True/\11=(b9 m c id).snd/\Cc m c id)/\(Al m c=false->(rY id=true->True/\2=(b9 m c id).snd/\Cc m c id)/\(rY id=false->(cd Tryz.prog (GN N) (148:Nat) [AV.mc zm (ao m)] (AV.mc zm (AV.agg [AV.own (0:Nat) m.vars.length,AV.own (1:Nat) m.ae.length,AV.own (2:Nat) m.aa.length,AV.own (3:Nat) m.sig.length])) [aw.row (3:TypeId) leaf m.vars.length λi=>co (m.vars.getD i (0:Int)),aw.row (3:TypeId) leaf m.ae.length λi=>co (m.ae.getD i (0:Int)),aw.row (31:TypeId) leaf m.aa.length λi=>gK N (m.aa.getD i []),aw.row (3:TypeId) leaf m.sig.length λi=>co (m.sig.getD i (0:Int))])/\(cx m=true/\bM m c ↑m.aa.length=0/\¬id<0)/\(RR c/\RR id)/\(RR m.vars.length/\RR m.ae.length/\RR m.aa.length/\RR m.sig.length)/\(RR m.vars.length/\∀ i:Nat,i<m.vars.length->RR (co (m.vars.getD i 0)))/\(RR m.ae.length/\∀ i:Nat,i<m.ae.length->RR (co (m.ae.getD i 0)))/\(RR m.aa.length/\∀ i:Nat,i<m.aa.length->gK N (m.aa.getD i [])=fN N m i)/\RR m.sig.length/\∀ i:Nat,i<m.sig.length->RR (co (m.sig.getD i 0)))))):=am
section
variable (m:Mem) (c:Int) (id:Int)
def qtk:List (List Int):=m.aa.set c.toNat (m.aa.getD c.toNat []++[id])
def qk0:Nat:=(qtk m c id).length
def qtl:=qk0 m c id<=qk0 m c id
end
theorem ajy (N:Nat->Prop) (m:Mem) (c id:Int):zsd N m c id=(aL Tryz.prog (GN N) (149:Nat) [AV.mc zm (AV.agg [ab m.vars,ab m.ae,aJ (qtk m c id),ab m.sig])] (AV.bool (cx (oc m c id)))/\m.vars.length<=m.vars.length/\m.ae.length<=m.ae.length/\qtl m c id/\m.sig.length<=m.sig.length/\((!cx (oc m c id))=true->True/\30=(b9 m c id).snd/\(b9 m c id).fst.vars.length=0/\(b9 m c id).fst.ae.length=0/\(b9 m c id).fst.aa.length=0/\(b9 m c id).fst.sig.length=0)/\((!cx (oc m c id))=false->m.vars.length<=m.vars.length/\m.ae.length<=m.ae.length/\qtl m c id/\m.sig.length<=m.sig.length/\m.vars.length<=m.vars.length/\m.ae.length<=m.ae.length/\qtl m c id/\m.sig.length<=m.sig.length/\True/\0=(b9 m c id).snd/\(m.vars.length=(b9 m c id).fst.vars.length/\∀ i:Nat,i<m.vars.length->co (m.vars.getD i 0)=co ((b9 m c id).fst.vars.getD i 0))/\(m.ae.length=(b9 m c id).fst.ae.length/\∀ i:Nat,i<m.ae.length->co (m.ae.getD i 0)=co ((b9 m c id).fst.ae.getD i 0))/\(qk0 m c id=(b9 m c id).fst.aa.length/\∀ i:Nat,i<qk0 m c id->ab ((qtk m c id).getD i [])=ab ((b9 m c id).fst.aa.getD i []))/\m.sig.length=(b9 m c id).fst.sig.length/\∀ i:Nat,i<m.sig.length->co (m.sig.getD i 0)=co ((b9 m c id).fst.sig.getD i 0))):=am
theorem alg:B8 4 zR= .seq (.region 8 iE true) (B8 5 zR):=am
theorem zuz (l:List (List Int)) (x:Int):∀ c,c<l.length ->(l.set c (l.getD c []++[x])).flatten.Perm (x::l.flatten):=by
 induction l with
 |nil=>intro c e;exact absurd e (wg _)
 |cons q l f=>
  intro c e
  cases c with
  |zero=>
   simp only[List.set_cons_zero,List.getD_cons_zero,List.flatten_cons,ww,List.singleton_append]
   exact List.perm_middle
  |succ c=>
   simp only[List.set_cons_succ,List.getD_cons_succ,List.flatten_cons]
   exact((f c (by simpa using e)).append_left q).trans List.perm_middle
theorem zzi (m:Mem) (c id:Int) (e:c.toNat<m.aa.length):(allI (oc m c id)).Perm (id::allI m):=
 ((zuz m.aa id c.toNat e).append_left m.sig).trans List.perm_middle
theorem zse (m:Mem) (id:Int):oT m id=true↔id∈allI m:=by grind[oT,allI,aW,List.mem_flatten]
theorem akc {m:Mem} {c id:Int} (i:cx m=true) (j:c.toNat<m.aa.length) (e:0<=id):cx (oc m c id)=!oT m id:=by
 have M:=yT.1 i
 have P:=zzi m c id j
 rw[wq,xj,<- gk,zse,yT]
 constructor
 . intro E
   have :=P.nodup_iff.1 E.nd
   grind
 . intro h
   refine⟨M.vars,M.ae,by show(m.aa.set _ _).length<=4;rw[wc];exact M.aa,M.ou,M.vU,M.own,λx f=>?_,P.nodup_iff.2 (List.nodup_cons.2 ⟨h,M.nd⟩)⟩
   rcases xq.1 (P.mem_iff.1 f)with rfl |h
   . exact e
   . exact M.pos x h
theorem alm (N:Nat ->Prop) (m:Mem) (c id:Int) (f:dN m):zzh N m c id:=by
 rw[aly];try delta Cc qj1 Br mM Al rY
 simp only[SZ]
 have s3:=f.aa
 have bad:∀ n:Int,b9 m c id=(eg,n) ->n=(b9 m c id).2/\(b9 m c id).1.vars.length=0/\(b9 m c id).1.ae.length=0/\(b9 m c id).1.aa.length=0/\(b9 m c id).1.sig.length=0:=λn h=>by rw[h];exact⟨rfl,rfl,rfl,rfl,rfl⟩
 refine⟨more (mV m f),λh=>bad _ (by unfold b9;rw[zhp h,x9 ap]),λh=>⟨λ_=>ac,λh1=>bad _ (by unfold b9;rw[sb h,x9 h1,x9 ap]),λh1=>?_⟩⟩
 have h0:bM m c m.aa.length=0:=by rw[sb h,x8 ac]
 exact⟨λh2=>bad _ (by unfold b9;rw[x8 (λe=>e h0),x9 h2]),λh2=>⟨an9 N m f,⟨h,h0,h2⟩,λ_ _=>rfl⟩⟩
theorem alr (N:Nat ->Prop) (m:Mem) (c id:Int) (f:dN m) (o:cx m=true) (j:bM m c m.aa.length=0) (k:¬ id<0):zsd N m c id:=by
 rw[ajy];try delta qtk qk0 qtl
 simp only[SZ]
 have r:=(ma j).2
 have i:=akc o (c:=c) (id:=id) ac ac
 have P:=(zzi m c id ac).length_eq
 have s5:=f.all
 refine⟨more (abu (oc m c id) f.vars f.ae (by show(m.aa.set _ _).length<=_;rw[wc];exact f.aa) f.sig (by rw[P];simp only[yz];omega)),λh=>?_,λh=>?_⟩
 . rw[i]at h
   have e:b9 m c id=(eg,30):=by unfold b9;rw[x8 (λe=>e j),x8 k,x9 (by simpa using h)]
   rw[e];exact⟨rfl,rfl,rfl,rfl,rfl⟩
 . rw[i]at h
   have e:b9 m c id=(oc m c id,0):=by unfold b9;rw[x8 (λe=>e j),x8 k,x8 (by simpa using h)]
   rw[e];exact⟨rfl,⟨rfl,λ_ _=>rfl⟩,⟨rfl,λ_ _=>rfl⟩,⟨rfl,λ_ _=>rfl⟩,rfl,λ_ _=>rfl⟩
end
end Go.Proofs.S25
namespace Go.Proofs.S25
open Go Go.AV Go.RowKit
variable (N:Nat ->Prop) (m:Mem)
section
variable {N:Nat ->Prop} {m:Mem} {c id:Int} {W0:AV.Entry} {F0:Nat ->Prop} {a:Act} {w:World} {F:Nat ->Prop} {φ:Nat ->AV.Place} {env:List (Nat×AV)} {f f':Nat ->AV}
theorem Fe {b:Nat} {x:aw} (h:AV.get (HQ m f') b=some x):∃ y,AV.get (HQ m f) b=some y/\x.isRow=y.isRow/\((x=y/\hlC y)∨(b=114690/\y= .row 31 .leaf m.aa.length f/\x= .row 31 .leaf m.aa.length f')):=by
 simp[HQ,AV.get]at h ⊢
 have k:∀ l:List Int,hlC (bI l):=λl i k j e=>rfl
 cases E:Nat.beq 8 b with
 |true=>
  simp only[E]at h ⊢
  cases h
  exact⟨_,rfl,rfl, .inl ⟨rfl,λj e=>match j,e with
   |0,_ |1,_ |2,_ |3,_=>rfl
   |j+4,e=>absurd e (by show ¬ j+4<4;omega)⟩⟩
 |false=>
 simp[E]at h ⊢
 cases z:Nat.beq 114688 b with
 |true=>simp only[z]at h ⊢;cases h;exact⟨_,rfl,rfl, .inl ⟨rfl,k _⟩⟩
 |false=>
 simp[z]at h ⊢
 cases u:Nat.beq 114689 b with
 |true=>simp only[u]at h ⊢;cases h;exact⟨_,rfl,rfl, .inl ⟨rfl,k _⟩⟩
 |false=>
 simp[u]at h ⊢
 cases o:Nat.beq 114690 b with
 |true=>simp only[o]at h ⊢;cases h;exact⟨_,rfl,rfl, .inr ⟨(xc o).symm,rfl,rfl⟩⟩
 |false=>
 simp[o]at h ⊢
 cases s:Nat.beq 114691 b with
 |true=>simp only[s]at h ⊢;cases h;exact⟨_,rfl,rfl, .inl ⟨rfl,k _⟩⟩
 |false=>
 simp[s]at h ⊢
 cases r:Nat.beq 6 b with
 |true=>
  simp only[r]at h ⊢
  cases h
  exact⟨_,rfl,rfl, .inl ⟨rfl,λj e=>match j,e with
   |0,_ |1,_ |2,_ |3,_=>rfl
   |j+4,e=>absurd e (by show ¬ j+4<4;omega)⟩⟩
 |false=>simp only[r]at h;cases h
theorem zzj {B:Nat ->Prop} {w':World} {b n:Nat} {ty:TypeId} (J:z24 w F φ B b (.row ty .leaf n f)) (E:∀ g,(φ b).bY=some g ->w'.heap[g]? =w.heap[g]?) (H:∀ j,j<n ->∀ v,ay w F v (z6 .leaf (f j) 0) ->ay w' F v (z6 .leaf (f' j) 0)):z24 w' F φ B b (.row ty .leaf n f'):=by
 have⟨M,e,K⟩:=J
 refine⟨M,e,K.imp id ?_⟩
 rintro⟨g,N,h,z,y,x,u,s,r,o⟩
 refine⟨g,N,h,z,y,(E g h).trans x,u,s,r,λi m j k=>?_⟩
 obtain rfl:j=0:=by have :j<1:=k;omega
 exact H i m _ (o i m 0 k)
theorem adk (h:Rel (lr N m 45) W0 F0 ⟨env,HQ m f⟩ a w F φ) (u:∀ j,j<m.aa.length ->∀ v,ay w F v (z6 .leaf (f j) 0) ->ay w F v (z6 .leaf (f' j) 0)):Rel (lr N m 45) W0 F0 ⟨env,HQ m f'⟩ a w F φ:=by
 refine⟨h.env,λb x r=>?_,λb H x O g E z=>?_,h.ro,h.base,h.sub,h.new,h.cW,h.fW,h.bZ,λb p k=>?_⟩
 . have⟨y,i,_,e⟩:=Fe (f:=f) r
   have k:=h.heap b y i
   rcases e with⟨rfl,_⟩ | ⟨rfl,rfl,rfl⟩
   . exact k
   . exact zzj k (λ_ _=>rfl) u
 . have⟨y,i,_⟩:=Fe (f:=f) E
   have⟨s,o,_⟩:=Fe (f:=f) z
   exact h.inj b H y s g i o
 . have⟨M,K,J⟩:=h.gY b p k
   exact⟨M,K,λx r=>by
    have⟨y,i,e,_⟩:=Fe (f:=f) r
    rw[e];exact J y i⟩
theorem afg {s:Nat} {v:Value} (e:a.tmps.size=45) (hs:s<45):(a.put (some s) v).tmps[s]? =some v:=by simp[Act.put,e,hs]
theorem alj {s t:Nat} {v:Value} (e:t≠s):(a.put (some s) v).tmps[t]? =a.tmps[t]? :=by
 simp[Act.put];rw[wx (Ne.symm e)]
theorem aer (h:Rel (lr N m 45) W0 F0 ⟨env,HQ m (fN N m)⟩ a w F φ) (Z:∀ k,¬ W0.L k) (hA:∀ b,W0.A b=none) (hG:∀ g x,AV.get (GN N) g=some x ->ay W0.w F0 (.pointer (some ⟨g,0,none⟩)) x) (W:∀ k,F0 k ->k<W0.w.heap.size)
 {g:Nat} {E:Array Value} (O:F g) (Y:¬ F0 g) (M:∀ j,j<m.aa.length ->j≠c.toNat ->∀ u,ay w F u (fN N m j) ->ay (w.setRow g E) F u (fN N m j)) {Q:Value} {x:AV} (R:ay (w.setRow g E) F Q x):
 Rel (lr N m 45) W0 F0 ⟨AV.put (ZT env) 38 x,HQ m (fU N m c)⟩ (a.put (some 38) Q) (w.setRow g E) F φ:=by
 have a1:W0.w.heap.size<=g:=by
  rcases h.new g O with r |r |r
  . exact(Y r).elim
  . exact r
  . exact(Z g r).elim
 have H:∀ b y gb,AV.get (HQ m (fN N m)) b=some y ->(φ b).bY=some gb ->(w.setRow g E).heap[gb]? =w.heap[gb]? /\¬ F gb:=λb y gb J o=>by
  have :=((h.heap b y J).lt o).2.1
  exact⟨tG λe=>this (e ▸ O),this⟩
 refine⟨λs y hs=>?_,λb y hy=>?_,λb b' y y' gg r X=>?_,λk K=>by rw[setRow_size];exact h.ro k K, ?_,h.sub,h.new,h.cW, ?_,λs y hs=>?_,λb p J=>by rw[hA b]at J;cases J⟩
 . by_cases e:s=38
   . subst e
     simp only[zv,xr]at hs
     subst hs
     exact⟨Q,afg h.fW ap, .stat R⟩
   . simp only[zb _ _ _ _ e]at hs
     have⟨U,i,e0⟩:=zsb hs
     have⟨v,r,X⟩:=h.env s U i
     refine⟨v,by rw[alj e];exact r, ?_⟩
     rcases e0 with⟨rfl,hl⟩ |rfl
     . exact zsa X hl
     . exact .gD false (λh=>by cases h) λ_=> .inr rfl
 . have⟨U,i,_,e⟩:=Fe (f:=fN N m) hy
   have J:=h.heap b U i
   rcases e with⟨rfl,hl⟩ | ⟨rfl,rfl,rfl⟩
   . exact z24.hl J hl λgb o=>H b _ gb i o
   . refine zzj J (λgb o=>(H _ _ gb i o).1) λj hj v R=>?_
     unfold fU
     by_cases e:j=c.toNat
     . rw[x9 e];exact .any _ (R.one rfl)
     . rw[x8 e];exact M j hj e v R
 . have⟨z,hz,_⟩:=Fe (f:=fN N m) r
   have⟨z',V,_⟩:=Fe (f:=fN N m) X
   exact h.inj b b' z z' gg hz V
 . exact h.base.trans (L':=λk=>k=g) ⟨rfl,rfl,rfl,by rw[setRow_size];exact xm _,λk _ K=>tG K⟩ λi hi a0=>by subst hi;omega
 . show(a.tmps.setIfInBounds 38 Q).size=45
   rw[Array.size_setIfInBounds];exact h.fW
 . exact(hG s y hs).keep (λk K=>(tG λe:k=g=>Y (e ▸ K)).trans (h.base.block k (W k K) (Z k))) h.sub
end
def g9 (id:Int) (i:Nat):AV:=List.getD (List.set (List.replicate 1 (co 0)) 0 (av (co id))) i AV.any
def fx (c id:Int):Nat ->Option AV
 |0 |3=>some (.ptr 8 [2])
 |1 |4=>some (.own 114690 m.aa.length)
 |2 |5=>some (co c)
 |6 |11=>some (.bB 114690 c.toNat [])
 |7=>some (fN N m c.toNat)
 |8=>some (co id)
 |9=>some (.seq .leaf 1 (g9 id))
 |10=>some (ab (m.aa.getD c.toNat []++[id]))
 |_=>none
abbrev CCN:=aL Tryz.prog (GN N)
abbrev ri (f:Nat ->AV) (i:Nat) (l:List (Nat×AV)) (x:AV) (ps:List Prop) (need:List Operand):Prop:=OpF (lr N m 45) (CCN N) iE (HQ m f) i (o8 i) l x ps need
section
variable (N:Nat ->Prop) (m:Mem) (c id:Int) (f:Nat ->AV)
theorem p0:ri N m f 0 [(8, .ptr 8 [])] (.ptr 8 [2]) [] [.tmp 8]:=⟨am,am,am,am,am,λs=>am,am,am⟩
theorem p1:ri N m f 1 [(28, .ptr 8 [2])] (.own 114690 m.aa.length) [] [.tmp 28]:=⟨am,am,am,am,am,λs=>am,am,am⟩
theorem p2:ri N m f 2 [(1,co c)] (co c) [] [.tmp 1]:=⟨am,am,am,am,am,λs=>am,am,am⟩
theorem p3:ri N m f 3 [(8, .ptr 8 [])] (.ptr 8 [2]) [] [.tmp 8]:=⟨am,am,am,am,am,λs=>am,am,am⟩
theorem p4:ri N m f 4 [(31, .ptr 8 [2])] (.own 114690 m.aa.length) [] [.tmp 31]:=⟨am,am,am,am,am,λs=>am,am,am⟩
theorem p5:ri N m f 5 [(1,co c)] (co c) [] [.tmp 1]:=⟨am,am,am,am,am,λs=>am,am,am⟩
theorem p6:ri N m f 6 [(32, .own 114690 m.aa.length),(33,co c)] (.bB 114690 c.toNat []) [ai c m.aa.length] [.tmp 32, .tmp 33]:=⟨am,am,am,am,am,λs=>am,am,am⟩
theorem p7:ri N m (fN N m) 7 [(34, .bB 114690 c.toNat [])] (fN N m c.toNat) [c.toNat<m.aa.length] [.tmp 34]:=⟨am,am,am,am,am,λs=>am,am,am⟩
theorem p8:ri N m f 8 [(2,co id)] (co id) [] [.tmp 2]:=⟨am,am,am,am,am,λs=>am,am,am⟩
theorem p9:ri N m f 9 [(36,co id)] (.seq .leaf 1 (g9 id)) [1*Shape.leaf.size<=16777216] [.tmp 36]:=⟨am,am,am,am,am,λs=>am,am,am⟩
theorem p11:ri N m f 11 [(29, .own 114690 m.aa.length),(30,co c)] (.bB 114690 c.toNat []) [ai c m.aa.length] [.tmp 29, .tmp 30]:=⟨am,am,am,am,am,λs=>am,am,am⟩
theorem p10 (n:Nat) (g h:Nat ->AV):ri N m f 10 [(35, .bN .leaf n g),(37, .seq .leaf 1 h)] (.seq .leaf (n+1) λi=>if i<n then g i else h (i - n)) [0<1/\((n+1:Nat):Int)*(8:Nat)<=140737488355328/\n+1<=9223372036854775807] [.tmp 35, .tmp 37]:=
 ⟨am,am,am,am,am,λs=>am,am,am⟩
def f12 (j:Nat):AV:=if j=c.toNat then ab (m.aa.getD c.toNat []++[id])else fU N m c j
def FY:List (Nat×AV):=[(38,ab (m.aa.getD c.toNat []++[id])),(39, .bB 114690 c.toNat []),(8, .ptr 8 []),(6, .ptr 6 [])]
theorem p12:mN (lr N m 45) (CCN N) (λ_ _=>none) iE.toList ⟨FY m c id,HQ m (fU N m c)⟩ (o8 12)=some (⟨FY m c id,AV.put (HQ m (fU N m c)) 114690 (.row 31 .leaf m.aa.length (f12 N m c id))⟩,[c.toNat<m.aa.length]):=am
theorem sz8:iE.size=13:=am
end
def I8 (c id:Int) (W0:AV.Entry) (F0:Nat ->Prop) (D:Nat ->Bool) (a:Act) (w:World):Prop:=
 z85 iE (λk=>D k=true)/\match D 12 with
 |true=>∃ F φ,Rel (lr N m 45) W0 F0 (S8 (oc m c id)) a w F φ
 |false=>∃ env F φ,Rel (lr N m 45) W0 F0 ⟨env,HQ m (bif D 10 then fU N m c else fN N m)⟩ a w F φ/\(∀ s x,AV.get (S7 N m c id).env s=some x ->AV.get env s=some x)/\
  ∀ i x,D i=true ->(D 10&&(Nat.beq i 7 || Nat.beq i 9))=false ->fx N m c id i=some x ->AV.get env (28+i)=some x
section
variable {N:Nat ->Prop} {m:Mem} {c id:Int} {W0:AV.Entry} {F0:Nat ->Prop} {a:Act} {w:World} {F:Nat ->Prop} {φ:Nat ->AV.Place} {env:List (Nat×AV)} {D:Nat ->Bool} {Q:Exit ->Act ->World ->Prop}
theorem ccE:cP (lr N m 45) (CCN N):=z9a (lr N m 45) (λ_ _ _ _ h=>h)
theorem zg4 {s:Nat} {x:AV} (h:AV.get (S7 N m c id).env s=some x):s<28:=by
 simp[S7,AV.get]at h
 grind[xc]
theorem ale {i:Nat} {o:Oper} (h:iE[i]? =some o):o=o8 i:=by unfold o8;rw[h];rfl
theorem zn4 {i:Nat} {o:Oper} (u:z85 iE λk=>D k=true) (x:iE[i]? =some o) (m:∀ e∈o.after.toList,Region.binds .any e=true ->D e.on=true):z85 iE λk=>(D k || Nat.beq k i)=true:=by
 intro k j f h e r s
 simp at f ⊢
 rcases f with f |f
 . exact .inl (u k j f h e r s)
 . simp_all
theorem zhx {i k:Nat} (h:k≠i):Nat.beq k i=false:=by
 cases e:Nat.beq k i with
 |false=>rfl
 |true=>exact absurd (xc e) h
theorem tB {i:Nat} {o:Oper} (R:o=o8 i) (z:i≠10) (u:i≠12) {l:List (Nat×AV)} {x:AV} {H:List Prop} {f:List Operand} (U:ri N m (bif D 10 then fU N m c else fN N m) i l x H f) (V:fx N m c id i=some x) (j:∀ p∈H,p) (K:D 12=false) (r:z85 iE λk=>(D k || Nat.beq k i)=true)
 (hI:I8 N m c id W0 F0 D a w) (hl:∀ s y,AV.get l s=some y ->AV.get (S7 N m c id).env s=some y∨∃ k,s=28+k/\D k=true/\(D 10&&(Nat.beq k 7 || Nat.beq k 9))=false/\fx N m c id k=some y):
 o.wp Tryz.prog a w (I8 N m c id W0 F0 λk=>D k || Nat.beq k i) Q:=by
 subst R
 have⟨_,hI⟩:=hI
 rw[K]at hI
 have⟨env,F,φ,hR,J,hf⟩:=hI
 refine U.go j (NL N m 45) ccE hR (λs y hs=>?_) λenv' a' w' F' φ' hR' h1 h2=>⟨r, ?_⟩
 . rcases hl s y hs with h | ⟨k,rfl,O,k2,M⟩
   . exact J s y h
   . exact hf k y O k2 M
 . have E:(D 10 || Nat.beq 10 i)=D 10:=by rw[zhx (Ne.symm z),Bool.or_false]
   have FY:(D 12 || Nat.beq 12 i)=false:=by rw[zhx (Ne.symm u),Bool.or_false,K]
   simp only[FY,E]
   refine⟨env',F',φ',hR',λs y hs=>by rw[h2 s (by have :=zg4 hs;omega)];exact J s y hs,λk y hk hk2 hk3=>?_⟩
   by_cases e:k=i
   . grind
   . simp_all
end
section
variable {N:Nat ->Prop} {m:Mem} {c id:Int} {W0:AV.Entry} {F0:Nat ->Prop} {a:Act} {w:World} {F:Nat ->Prop} {φ:Nat ->AV.Place} {env:List (Nat×AV)} {D:Nat ->Bool} {K:Act ->World ->Prop} {Q:Exit ->Act ->World ->Prop}
theorem room {P:Program} {t ty e tb:TypeId} {i:TypeInfo} (z:P.underlying t=some (.slice e)) (F:P.info? e=some i) {g n cap:Nat} {cur:Array Value} (H:w.heap[g]? =some (.cells cur tb (0,0))) {r:Addr} {c:Nat} {u:Value} (o:i.size=1) (y:w.cell? (r.add 0)=some u) (E:u.oneCell'=true) (f:n+1<=cap) (h:n+1<=cur.size):
 (Builtin.append_ #[t,t] ty #[.slice (some ⟨g,0,none⟩) n cap, .slice (some r) 1 c]).run P w= .ok (.slice (some ⟨g,0,none⟩) (n+1) cap) (w.setRow g (cur.toList.take n++#[u].toList++cur.toList.drop (n+1)).toArray):=by
 have s:=run_firstCells_some (P:=P) w i.size 1 r 1 c [u] (by rw[o];rfl) (λj v m=>by
  match j,m with
  |0,m=>cases m;exact y)
 have k:=run_storeCells_at (P:=P) g n tb [u] 0 cur w H (by simpa using h) (λv x=>by rw[xz.1 x];exact E)
 rw[o]at s
 simp[Builtin.append_,run_underlying z,sizeOf,typeInfo,F,Builtin.lenOf,f,s,Addr.add_lit,k,o]
theorem zn5 {l:List Int} {v:Value} (h:ay w F v (gK N l)):ay w F v (.bN .leaf l.length λi=> .int .i64 (l.getD i 0))∨
 ∃ g cap k ty,v= .slice (some ⟨g,0,none⟩) l.length cap/\l.length+1<=cap/\0<l.length/\F g/\N g/\w.heap[g]? =some (.cells k ty (0,0))/\cap<=k.size/\∀ i,i<l.length ->k.getD i undef= .int .i64 (l.getD i 0)/\aU .i64 (l.getD i 0):=by
 unfold gK at h
 generalize y:(λi=>AV.int .i64 (l.getD i 0))=f at h
 generalize K:l.length=n at h ⊢
 cases h with
 |im=>subst y;exact .inl (.jL _ _ _)
 |cM _ g o _ cap _ _ k E O M K z s=>
  obtain⟨rfl,R,j,ty,x,e⟩:=M
  have e:cap<=j.size:=by have :cap*1<=j.size:=e;omega
  have J:∀ i,i<n ->j.getD i undef= .int .i64 (l.getD i 0)/\aU .i64 (l.getD i 0):=λi u=>by
   have Q:=z i u 0 ap
   have r:=s i u 0 ap
   subst y
   have r:ay w F (k i 0) (.int .i64 (l.getD i 0)):=r
   have⟨V,U⟩:=zbj r
   have H:w.cell? ⟨g,0+(i*1+0),none⟩=some (k i 0):=Q
   rw[xy,jj,wm,oW x ac]at H
   exact⟨(gp H).trans V,U⟩
  by_cases m:n+1<=cap
  . exact .inr ⟨g,cap,j,ty,rfl,m,R,E,O,x,e,J⟩
  . obtain rfl:cap=n:=ac
    exact .inl (.bN g 0 _ _ _ k E z s)
theorem aha {v:Value} {l:List Int} (h:ay w F v (.seq .leaf (l.length+1) λi=>if i<l.length then co (l.getD i 0)else g9 id (i - l.length))):ay w F v (ab (l++[id])):=by
 unfold ab
 rw[show(l++[id]).length=l.length+1 by simp]
 refine zjt h λi j=>?_
 by_cases e:i<l.length
 . rw[x9 e,x7 (l:=l++[id]),ye e,<- x7]
   exact⟨rfl,rfl,λu f=>f⟩
 . obtain rfl:i=l.length:=ac
   rw[x8 e,w9,x7 (l:=l++[id]),y9 (xm _),w9]
   exact⟨rfl,rfl,λu f=>f⟩
theorem aau {C:bt} {H:List (Nat×aw)} (h:Rel C W0 F0 ⟨env,H⟩ a w F φ) {s:Nat} {v:Value} {y:AV} (hs:a.tmps[s]? =some v) (i:aO w F φ v y):Rel C W0 F0 ⟨AV.put env s y,H⟩ a w F φ:=by
 refine⟨λt z f=>?_,h.heap,h.inj,h.ro,h.base,h.sub,h.new,h.cW,h.fW,h.bZ,h.gY⟩
 by_cases e:t=s
 . subst e
   simp[zv]at f
   grind
 . simp[zb _ _ _ _ e]at f
   exact h.env t z f
theorem alf {o:Oper} (ho:o=o8 10) (hM:kW m) (hc:c.toNat<m.aa.length) (hq:(m.aa.getD c.toNat []).length<=1000000) (ch:aU .i64 id) (d2:∀ k,N k ->¬ F0 k) (hL:∀ k,¬ W0.L k) (hA:∀ b,W0.A b=none) (hG:∀ g x,AV.get (GN N) g=some x ->ay W0.w F0 (.pointer (some ⟨g,0,none⟩)) x) (d3:∀ k,F0 k ->k<W0.w.heap.size)
 (hR:Rel (lr N m 45) W0 F0 ⟨env,HQ m (fN N m)⟩ a w F φ) (d4:AV.get env 35=some (fN N m c.toNat)) (b1:AV.get env 37=some (.seq .leaf 1 (g9 id)))
 (hK:∀ R a' w' F' φ',Rel (lr N m 45) W0 F0 ⟨R,HQ m (fU N m c)⟩ a' w' F' φ' ->AV.get R 38=some (ab (m.aa.getD c.toNat []++[id])) ->(∀ s x,s≠35 ->s≠37 ->s≠38 ->AV.get env s=some x ->uf x=true ->AV.get R s=some x) ->K a' w'):o.wp Tryz.prog a w K Q:=by
 subst ho
 have⟨bd,W,M⟩:=hR.env 35 _ d4
 have M:ay w F bd (gK N (m.aa.getD c.toNat [])):=M.lA rfl
 rcases zn5 M with a4 | ⟨g,cap,cs,ty,rfl,J,h0,b0,d1,hh,d7,r⟩
 . refine(p10 N m (fN N m) (m.aa.getD c.toNat []).length (λi=> .int .i64 ((m.aa.getD c.toNat []).getD i 0)) (g9 id)).go (λp hp=>?_) (NL N m 45) ccE (aau hR W (.stat a4)) (λs y hs=>?_) λenv' a' w' F' φ' a9 h1 h2=>?_
   . obtain rfl:=xz.1 hp
     exact⟨ap,by omega,by omega⟩
   . simp only[AV.get]at hs
     split at hs
     . rename_i e
       have :=xc e
       subst this
       cases hs
       exact zv _ _ _
     . split at hs
       . rename_i e
         have :=xc e
         subst this
         cases hs
         rw[zb _ _ _ _ ap];exact b1
       . cases hs
   . have⟨v,hv,hr⟩:=a9.env 38 _ h1
     refine hK _ _ _ _ _ (aau (adk a9 λj V v hv=>?_) hv (.stat (aha (hr.lA rfl)))) (zv _ _ _) λs x a1 a2 a3 hs hx=>?_
     . unfold fU
       by_cases e:j=c.toNat
       . rw[x9 e];exact .any _ (hv.one rfl)
       . rw[x8 e];exact hv
     . rw[zb _ _ _ _ a3,h2 s (by omega),zb _ _ _ _ a1];exact hs
 . have⟨b6,a6,E⟩:=hR.env 37 _ b1
   obtain⟨ad,c2,rfl,a5⟩:∃ ad c2,b6= .slice (some ad) 1 c2/\w.cell? (ad.add 0)=some (.int .i64 id):=by
    have E:=E.lA rfl
    generalize d0:g9 id=gg at E
    cases E with
    |seq g2 o2 _ c2 _ _ U k1 k2 k3 k4=>
     subst d0
     have k5:ay w F (U 0 0) (.int .i64 id):=k4 0 ap 0 ap
     have k6:=k3 0 ap 0 ap
     rw[(zbj k5).1]at k6
     exact⟨_,_,rfl,k6⟩
   obtain⟨te,a7⟩:∃ te,aY (lr N m 45) 3=some te/\te.sh.size=1:=⟨_,rfl,rfl⟩
   have⟨dd,ie,z,d8,c3,bk,_⟩:=(NL N m 45 _ _ a7.1).info
   have H:=room (w:=w) (P:=Tryz.prog) (ty:=(o8 10).type) (t:=31) Tryz.underlying31 c3 hh (bk.trans a7.2) a5 rfl J (show(m.aa.getD c.toNat []).length+1<=cs.size by omega) (c:=c2)
   have d5:∀ {v':Value} {w':World},(Builtin.append_ #[31,31] (o8 10).type #[a.eval (.tmp 35),a.eval (.tmp 37)]).run Tryz.prog w= .ok v' w' ->K (a.put (some 38) v') w' ->(o8 10).wp Tryz.prog a w K Q:=by
    intro v' w' H c0
    unfold Oper.wp
    have :(execOp a.eval (o8 10)).run Tryz.prog w= .ok (.value v') w':=by
     refine YV (C:=lr N m 45) (c:=⟨.builtin .append,#[.tmp 35, .tmp 37],#[31,31]⟩) (b:= .append) am rfl ?_
     simp only[builtin,Sem.run_bind]
     have :(#[Operand.tmp 35, .tmp 37].map a.eval)=#[a.eval (.tmp 35),a.eval (.tmp 37)]:=by simp
     rw[this]
     show((Builtin.append_ #[31,31] (o8 10).type #[a.eval (.tmp 35),a.eval (.tmp 37)]).run Tryz.prog w).andThen _=_
     rw[H]
     rfl
    rw[this]
    have hd:(o8 10).dst=some 38:=am
    show K (a.put (o8 10).dst v') w'
    rw[hd]
    exact c0
   have ev:∀ {t:Nat} {v:Value},a.tmps[t]? =some v ->a.eval (.tmp t)=v:=λh=>by
    show a.tmps.getD _ undef=_
    rw[xb,h];rfl
   refine d5 (by rw[ev W,ev a6];exact H) ?_
   have a8:=z7m (cur:=cs) (new:=#[Value.int .i64 id]) (off:=(m.aa.getD c.toNat []).length) (n:=1) rfl (by omega)
   have bh:=z68 (cur:=cs) (new:=#[Value.int .i64 id]) (off:=(m.aa.getD c.toNat []).length) (n:=1) rfl (by omega)
   generalize d6:(cs.toList.take (m.aa.getD c.toNat []).length++#[Value.int .i64 id].toList++cs.toList.drop ((m.aa.getD c.toNat []).length+1)).toArray=b4 at a8 bh
   have Z:=setRow_heap w g cs b4 ty (0,0) hh
   refine hK _ _ _ _ _ (aer (c:=c) (x:=ab (m.aa.getD c.toNat []++[id])) hR hL hA hG d3 b0 (d2 g d1) (λj V c1 u Y=>?_) ?_) (zv _ _ _) λs x a1 a2 a3 hs hx=>?_
   . have Y:ay w F u (gK N (m.aa.getD j [])):=Y
     show ay _ F u (gK N (m.aa.getD j []))
     have O:=λh1=>zuv hM c1 V hc h1 h0
     unfold gK at Y ⊢
     generalize m.aa.getD j []=lj at Y O ⊢
     generalize hf:(λi=>AV.int .i64 (lj.getD i 0))=f at Y ⊢
     generalize hn:lj.length=n at Y ⊢ O
     cases Y with
     |im=>exact .im _ _ _
     |cM _ g2 o2 _ b5 _ _ U k1 k2 k3 k4 k5 k6=>
      subst hf
      have X:g2≠g:=λe=>by
       subst e
       obtain⟨rfl,a0,_⟩:=k3
       have e1:=k5 0 a0 0 ap
       have e2:ay w F (U 0 0) (.int .i64 (lj.getD 0 0)):=k6 0 a0 0 ap
       have e3:w.cell? ⟨g2,0,none⟩=some (U 0 0):=e1
       rw[oW hh (by omega),(r 0 h0).1,(zbj e2).1]at e3
       exact O a0 (Value.int.inj (gp e3)).2.symm
      exact .cM N g2 o2 n b5 .leaf (λi=> .int .i64 (lj.getD i 0)) U k1 k2 (by rw[tG X];exact k3) k4 (λi hi j V=>(World.cell?_of_block (tG X)).trans (k5 i hi j V)) λi hi j V=>zg3 (k6 i hi j V) rfl
   . unfold ab
     rw[show(m.aa.getD c.toNat []++[id]).length=(m.aa.getD c.toNat []).length+1 by simp]
     refine .seq g 0 _ cap .leaf _ (λi _=>b4.getD i undef) b0 J (λi hi j V=>?_) λi hi j V=>?_
     . obtain rfl:j=0:=by have :j<1:=V;omega
       show World.cell? _ ⟨g,0+(i*1+0),none⟩=_
       rw[xy,jj,wm]
       exact oW Z (by omega)
     . rw[a8 i]
       show ay _ F _ (.int .i64 ((m.aa.getD c.toNat []++[id]).getD i 0))
       by_cases e:i<(m.aa.getD c.toNat []).length
       . rw[x8 (by omega),(r i e).1,x7 (l:=_++[id]),ye e,<- x7]
         exact .int _ _ (r i e).2
       . obtain rfl:i=(m.aa.getD c.toNat []).length:=by omega
         rw[x9 (by omega),w9,x7 (l:=_++[id]),y9 (xm _),w9]
         exact .int _ _ ch
   . rw[zb _ _ _ _ a3];exact zsc hx hs
end
end Go.Proofs.S25
