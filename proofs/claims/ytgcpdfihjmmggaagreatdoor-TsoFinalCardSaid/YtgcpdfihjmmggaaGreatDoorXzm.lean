import Derived.Test.YtgcpdfihjmmggaaGreatDoorXzl
import Derived.Laws.AppendOwn
import Derived.Test.YtgcpdfihjmmggaaGreatDoorXze
namespace Go.Proofs.S25
open Go Go.AV Go.RowKit
variable (N:Nat ->Prop) (m:Mem)
def g9 (id:Int) (i:Nat):AV:=List.getD (List.set (List.replicate 1 (d9 0)) 0 (aq (d9 id))) i AV.any
def fx (c id:Int):Nat ->Option AV
 |0 |3=>some (.ptr 8 [2])
 |1 |4=>some (.own 114690 m.a6.length)
 |2 |5=>some (d9 c)
 |6 |11=>some (.bq 114690 c.toNat [])
 |7=>some (fN N m c.toNat)
 |8=>some (d9 id)
 |9=>some (.seq .leaf 1 (g9 id))
 |10=>some (a8 (m.a6.getD c.toNat []++[id]))
 |_=>none
abbrev CCN:=eS Tryz.prog (GN N)
abbrev nY (f:Nat ->AV) (i:Nat) (l:List (Nat×AV)) (x:AV) (ps:List Prop) (need:List Operand):Prop:=OpF (z5c N m 45) (CCN N) gJ (HQ m f) i (o8 i) l x ps need
section
variable (N:Nat ->Prop) (m:Mem) (c id:Int) (f:Nat ->AV)
theorem p0:nY N m f 0 [(8, .ptr 8 [])] (.ptr 8 [2]) [] [.tmp 8]:=⟨ac,ac,ac,ac,ac,λs=>ac,ac,ac⟩
theorem p1:nY N m f 1 [(28, .ptr 8 [2])] (.own 114690 m.a6.length) [] [.tmp 28]:=⟨ac,ac,ac,ac,ac,λs=>ac,ac,ac⟩
theorem p2:nY N m f 2 [(1,d9 c)] (d9 c) [] [.tmp 1]:=⟨ac,ac,ac,ac,ac,λs=>ac,ac,ac⟩
theorem p3:nY N m f 3 [(8, .ptr 8 [])] (.ptr 8 [2]) [] [.tmp 8]:=⟨ac,ac,ac,ac,ac,λs=>ac,ac,ac⟩
theorem p4:nY N m f 4 [(31, .ptr 8 [2])] (.own 114690 m.a6.length) [] [.tmp 31]:=⟨ac,ac,ac,ac,ac,λs=>ac,ac,ac⟩
theorem p5:nY N m f 5 [(1,d9 c)] (d9 c) [] [.tmp 1]:=⟨ac,ac,ac,ac,ac,λs=>ac,ac,ac⟩
theorem p6:nY N m f 6 [(32, .own 114690 m.a6.length),(33,d9 c)] (.bq 114690 c.toNat []) [af c m.a6.length] [.tmp 32, .tmp 33]:=⟨ac,ac,ac,ac,ac,λs=>ac,ac,ac⟩
theorem p7:nY N m (fN N m) 7 [(34, .bq 114690 c.toNat [])] (fN N m c.toNat) [c.toNat<m.a6.length] [.tmp 34]:=⟨ac,ac,ac,ac,ac,λs=>ac,ac,ac⟩
theorem p8:nY N m f 8 [(2,d9 id)] (d9 id) [] [.tmp 2]:=⟨ac,ac,ac,ac,ac,λs=>ac,ac,ac⟩
theorem p9:nY N m f 9 [(36,d9 id)] (.seq .leaf 1 (g9 id)) [1*Shape.leaf.size<=16777216] [.tmp 36]:=⟨ac,ac,ac,ac,ac,λs=>ac,ac,ac⟩
theorem p11:nY N m f 11 [(29, .own 114690 m.a6.length),(30,d9 c)] (.bq 114690 c.toNat []) [af c m.a6.length] [.tmp 29, .tmp 30]:=⟨ac,ac,ac,ac,ac,λs=>ac,ac,ac⟩
theorem p10 (n:Nat) (g h:Nat ->AV):nY N m f 10 [(35, .bD .leaf n g),(37, .seq .leaf 1 h)] (.seq .leaf (n+1) λi=>if i<n then g i else h (i - n)) [0<1/\((n+1:Nat):Int)*(8:Nat)<=140737488355328/\n+1<=9223372036854775807] [.tmp 35, .tmp 37]:=
 ⟨ac,ac,ac,ac,ac,λs=>ac,ac,ac⟩
def f12 (j:Nat):AV:=if j=c.toNat then a8 (m.a6.getD c.toNat []++[id])else fU N m c j
def C8:List (Nat×AV):=[(38,a8 (m.a6.getD c.toNat []++[id])),(39, .bq 114690 c.toNat []),(8, .ptr 8 []),(6, .ptr 6 [])]
theorem p12:lh (z5c N m 45) (CCN N) (λ_ _=>none) gJ.toList ⟨C8 m c id,HQ m (fU N m c)⟩ (o8 12)=some (⟨C8 m c id,AV.put (HQ m (fU N m c)) 114690 (.row 29 .leaf m.a6.length (f12 N m c id))⟩,[c.toNat<m.a6.length]):=ac
theorem sz8:gJ.size=13:=ac
end
def I8 (c id:Int) (W0:AV.Entry) (F0:Nat ->Prop) (D:Nat ->Bool) (a:Act) (w:World):Prop:=
 z85 gJ (λk=>D k=true)/\match D 12 with
 |true=>∃ F φ,Rel (z5c N m 45) W0 F0 (S8 (mr m c id)) a w F φ
 |false=>∃ env F φ,Rel (z5c N m 45) W0 F0 ⟨env,HQ m (bif D 10 then fU N m c else fN N m)⟩ a w F φ/\(∀ s x,AV.get (S7 N m c id).env s=some x ->AV.get env s=some x)/\
  ∀ i x,D i=true ->(D 10&&(Nat.beq i 7 || Nat.beq i 9))=false ->fx N m c id i=some x ->AV.get env (28+i)=some x
section
variable {N:Nat ->Prop} {m:Mem} {c id:Int} {W0:AV.Entry} {F0:Nat ->Prop} {a:Act} {w:World} {F:Nat ->Prop} {φ:Nat ->AV.Place} {env:List (Nat×AV)} {D:Nat ->Bool} {Q:Exit ->Act ->World ->Prop}
theorem ccE:dW (z5c N m 45) (CCN N):=z9a (z5c N m 45) (λ_ _ _ _ h=>h)
theorem zg4 {s:Nat} {x:AV} (h:AV.get (S7 N m c id).env s=some x):s<28:=by
 simp[S7,AV.get]at h
 grind[xc]
theorem akv {i:Nat} {o:Oper} (h:gJ[i]? =some o):o=o8 i:=by unfold o8;rw[h];rfl
theorem zn4 {i:Nat} {o:Oper} (u:z85 gJ λk=>D k=true) (x:gJ[i]? =some o) (m:∀ e∈o.after.toList,Region.binds .any e=true ->D e.on=true):z85 gJ λk=>(D k || Nat.beq k i)=true:=by
 intro k j f h e r s
 simp at f ⊢
 rcases f with f |f
 . exact .inl (u k j f h e r s)
 . simp_all
theorem Z7 {i k:Nat} (h:k≠i):Nat.beq k i=false:=by
 cases e:Nat.beq k i with
 |false=>rfl
 |true=>exact absurd (xc e) h
theorem qR {i:Nat} {o:Oper} (V:o=o8 i) (E:i≠10) (u:i≠12) {l:List (Nat×AV)} {x:AV} {J:List Prop} {f:List Operand} (X:nY N m (bif D 10 then fU N m c else fN N m) i l x J f) (Y:fx N m c id i=some x) (j:∀ p∈J,p) (M:D 12=false) (r:z85 gJ λk=>(D k || Nat.beq k i)=true)
 (hI:I8 N m c id W0 F0 D a w) (hl:∀ s y,AV.get l s=some y ->AV.get (S7 N m c id).env s=some y∨∃ k,s=28+k/\D k=true/\(D 10&&(Nat.beq k 7 || Nat.beq k 9))=false/\fx N m c id k=some y):
 o.wp Tryz.prog a w (I8 N m c id W0 F0 λk=>D k || Nat.beq k i) Q:=by
 subst V
 have⟨_,hI⟩:=hI
 rw[M]at hI
 have⟨env,F,φ,hR,K,hf⟩:=hI
 refine X.go j (Cq N m 45) ccE hR (λs y hs=>?_) λenv' a' w' F' φ' hR' h1 h2=>⟨r, ?_⟩
 . rcases hl s y hs with h | ⟨k,rfl,U,k2,R⟩
   . exact K s y h
   . exact hf k y U k2 R
 . have H:(D 10 || Nat.beq 10 i)=D 10:=by rw[Z7 (Ne.symm E),Bool.or_false]
   have C8:(D 12 || Nat.beq 12 i)=false:=by rw[Z7 (Ne.symm u),Bool.or_false,M]
   simp only[C8,H]
   refine⟨env',F',φ',hR',λs y hs=>by rw[h2 s (by have :=zg4 hs;omega)];exact K s y hs,λk y hk hk2 hk3=>?_⟩
   by_cases e:k=i
   . grind
   . simp_all
end
section
variable {N:Nat ->Prop} {m:Mem} {c id:Int} {W0:AV.Entry} {F0:Nat ->Prop} {a:Act} {w:World} {F:Nat ->Prop} {φ:Nat ->AV.Place} {env:List (Nat×AV)} {D:Nat ->Bool} {K:Act ->World ->Prop} {Q:Exit ->Act ->World ->Prop}
theorem room {P:Program} {t ty e tb:TypeId} {i:TypeInfo} (F:P.underlying t=some (.slice e)) (J:P.info? e=some i) {g n cap:Nat} {cur:Array Value} (K:w.heap[g]? =some (.cells cur tb (0,0))) {s:Addr} {c:Nat} {u:Value} (r:i.size=1) (E:w.cell? (s.add 0)=some u) (H:u.oneCell'=true) (f:n+1<=cap) (h:n+1<=cur.size):
 (Builtin.append_ #[t,t] ty #[.slice (some ⟨g,0,none⟩) n cap, .slice (some s) 1 c]).run P w= .ok (.slice (some ⟨g,0,none⟩) (n+1) cap) (w.setRow g (cur.toList.take n++#[u].toList++cur.toList.drop (n+1)).toArray):=by
 have x:=run_firstCells_some (P:=P) w i.size 1 s 1 c [u] (by rw[r];rfl) (λj v m=>by
  match j,m with
  |0,m=>cases m;exact E)
 have k:=run_storeCells_at (P:=P) g n tb [u] 0 cur w K (by simpa using h) (λv y=>by rw[jt.1 y];exact H)
 rw[r]at x
 simp[Builtin.append_,run_underlying F,sizeOf,typeInfo,J,Builtin.lenOf,f,x,Addr.add_lit,k,r]
theorem zn5 {l:List Int} {v:Value} (h:au w F v (fg N l)):au w F v (.bD .leaf l.length λi=> .int .i64 (l.getD i 0))∨
 ∃ g cap k ty,v= .slice (some ⟨g,0,none⟩) l.length cap/\l.length+1<=cap/\0<l.length/\F g/\N g/\w.heap[g]? =some (.cells k ty (0,0))/\cap<=k.size/\∀ i,i<l.length ->k.getD i undef= .int .i64 (l.getD i 0)/\aM .i64 (l.getD i 0):=by
 unfold fg at h
 generalize y:(λi=>AV.int .i64 (l.getD i 0))=f at h
 generalize M:l.length=n at h ⊢
 cases h with
 |fJ=>subst y;exact .inl (.ik _ _ _)
 |cz _ g o _ cap _ _ k H R Q M E s=>
  obtain⟨rfl,V,j,ty,x,e⟩:=Q
  have e:cap<=j.size:=by have :cap*1<=j.size:=e;omega
  have K:∀ i,i<n ->j.getD i undef= .int .i64 (l.getD i 0)/\aM .i64 (l.getD i 0):=λi u=>by
   have U:=E i u 0 am
   have r:=s i u 0 am
   subst y
   have r:au w F (k i 0) (.int .i64 (l.getD i 0)):=r
   have⟨Y,X⟩:=zbj r
   have J:w.cell? ⟨g,0+(i*1+0),none⟩=some (k i 0):=U
   rw[xw,jf,wd,nq x O]at J
   exact⟨(gk J).trans Y,X⟩
  by_cases m:n+1<=cap
  . exact .inr ⟨g,cap,j,ty,rfl,m,V,H,R,x,e,K⟩
  . obtain rfl:cap=n:=O
    exact .inl (.bD g 0 _ _ _ k H E s)
theorem afg {v:Value} {l:List Int} (h:au w F v (.seq .leaf (l.length+1) λi=>if i<l.length then d9 (l.getD i 0)else g9 id (i - l.length))):au w F v (a8 (l++[id])):=by
 unfold a8
 rw[show(l++[id]).length=l.length+1 by simp]
 refine zjt h λi j=>?_
 by_cases e:i<l.length
 . rw[x9 e,x7 (l:=l++[id]),ya e,<- x7]
   exact⟨rfl,rfl,λu f=>f⟩
 . obtain rfl:i=l.length:=O
   rw[x8 e,yz,x7 (l:=l++[id]),y6 (xm _),yz]
   exact⟨rfl,rfl,λu f=>f⟩
theorem ZG {C:bu} {H:List (Nat×ar)} (h:Rel C W0 F0 ⟨env,H⟩ a w F φ) {s:Nat} {v:Value} {y:AV} (hs:a.tmps[s]? =some v) (i:aG w F φ v y):Rel C W0 F0 ⟨AV.put env s y,H⟩ a w F φ:=by
 refine⟨λt z f=>?_,h.heap,h.inj,h.ro,h.base,h.sub,h.new,h.eR,h.iC,h.aoi,h.gV⟩
 by_cases e:t=s
 . subst e
   simp[zv]at f
   grind
 . simp[zb _ _ _ _ e]at f
   exact h.env t z f
theorem aht {o:Oper} (ho:o=o8 10) (hM:jZ m) (hc:c.toNat<m.a6.length) (hq:(m.a6.getD c.toNat []).length<=1000000) (d1:aM .i64 id) (d4:∀ k,N k ->¬ F0 k) (hL:∀ k,¬ W0.L k) (hA:∀ b,W0.A b=none) (hG:∀ g x,AV.get (GN N) g=some x ->au W0.w F0 (.pointer (some ⟨g,0,none⟩)) x) (d5:∀ k,F0 k ->k<W0.w.heap.size)
 (hR:Rel (z5c N m 45) W0 F0 ⟨env,HQ m (fN N m)⟩ a w F φ) (d6:AV.get env 35=some (fN N m c.toNat)) (bd:AV.get env 37=some (.seq .leaf 1 (g9 id)))
 (hK:∀ U a' w' F' φ',Rel (z5c N m 45) W0 F0 ⟨U,HQ m (fU N m c)⟩ a' w' F' φ' ->AV.get U 38=some (a8 (m.a6.getD c.toNat []++[id])) ->(∀ s x,s≠35 ->s≠37 ->s≠38 ->AV.get env s=some x ->qU x=true ->AV.get U s=some x) ->K a' w'):o.wp Tryz.prog a w K Q:=by
 subst ho
 have⟨c3,Y,M⟩:=hR.env 35 _ d6
 have M:au w F c3 (fg N (m.a6.getD c.toNat [])):=M.kt rfl
 rcases zn5 M with a7 | ⟨g,cap,cs,ty,rfl,J,h0,b6,d3,hh,d8,r⟩
 . refine(p10 N m (fN N m) (m.a6.getD c.toNat []).length (λi=> .int .i64 ((m.a6.getD c.toNat []).getD i 0)) (g9 id)).go (λp hp=>?_) (Cq N m 45) ccE (ZG hR Y (.stat a7)) (λs y hs=>?_) λenv' a' w' F' φ' b5 h1 h2=>?_
   . obtain rfl:=jt.1 hp
     exact⟨am,by omega,by omega⟩
   . simp only[AV.get]at hs
     split at hs
     . rename_i e
       have :=xc e
       subst this
       cases hs
       exact zv _ _ _
     . split at hs
       . rename_i e
         have :=xc e
         subst this
         cases hs
         rw[zb _ _ _ _ am];exact bd
       . cases hs
   . have⟨v,hv,hr⟩:=b5.env 38 _ h1
     refine hK _ _ _ _ _ (ZG (Yb b5 λj X v hv=>?_) hv (.stat (afg (hr.kt rfl)))) (zv _ _ _) λs x a1 a2 a3 hs hx=>?_
     . unfold fU
       by_cases e:j=c.toNat
       . rw[x9 e];exact .any _ (hv.one rfl)
       . rw[x8 e];exact hv
     . rw[zb _ _ _ _ a3,h2 s (by omega),zb _ _ _ _ a1];exact hs
 . have⟨c1,b0,E⟩:=hR.env 37 _ bd
   obtain⟨ad,c2,rfl,a9⟩:∃ ad c2,c1= .slice (some ad) 1 c2/\w.cell? (ad.add 0)=some (.int .i64 id):=by
    have E:=E.kt rfl
    generalize d2:g9 id=gg at E
    cases E with
    |seq g2 o2 _ c2 _ _ V k1 k2 k3 k4=>
     subst d2
     have k5:au w F (V 0 0) (.int .i64 id):=k4 0 am 0 am
     have k6:=k3 0 am 0 am
     rw[(zbj k5).1]at k6
     exact⟨_,_,rfl,k6⟩
   obtain⟨te,b1⟩:∃ te,aU (z5c N m 45) 3=some te/\te.sh.size=1:=⟨_,rfl,rfl⟩
   have⟨dd,ie,z,e0,d0,ch,_⟩:=(Cq N m 45 _ _ b1.1).info
   have H:=room (w:=w) (P:=Tryz.prog) (ty:=(o8 10).type) (t:=29) Tryz.underlying29 d0 hh (ch.trans b1.2) a9 rfl J (show(m.a6.getD c.toNat []).length+1<=cs.size by omega) (c:=c2)
   have fin:∀ {v':Value} {w':World},(Builtin.append_ #[29,29] (o8 10).type #[a.eval (.tmp 35),a.eval (.tmp 37)]).run Tryz.prog w= .ok v' w' ->K (a.put (some 38) v') w' ->(o8 10).wp Tryz.prog a w K Q:=by
    intro v' w' H ci
    unfold Oper.wp
    have :(execOp a.eval (o8 10)).run Tryz.prog w= .ok (.value v') w':=by
     refine UU (C:=z5c N m 45) (c:=⟨.builtin .append,#[.tmp 35, .tmp 37],#[29,29]⟩) (b:= .append) ac rfl ?_
     simp only[builtin,Sem.run_bind]
     have :(#[Operand.tmp 35, .tmp 37].map a.eval)=#[a.eval (.tmp 35),a.eval (.tmp 37)]:=by simp
     rw[this]
     show((Builtin.append_ #[29,29] (o8 10).type #[a.eval (.tmp 35),a.eval (.tmp 37)]).run Tryz.prog w).andThen _=_
     rw[H]
     rfl
    rw[this]
    have hd:(o8 10).dst=some 38:=ac
    show K (a.put (o8 10).dst v') w'
    rw[hd]
    exact ci
   have ev:∀ {t:Nat} {v:Value},a.tmps[t]? =some v ->a.eval (.tmp t)=v:=λh=>by
    show a.tmps.getD _ undef=_
    rw[xb,h];rfl
   refine fin (by rw[ev Y,ev b0];exact H) ?_
   have b4:=z7m (cur:=cs) (new:=#[Value.int .i64 id]) (off:=(m.a6.getD c.toNat []).length) (n:=1) rfl (by omega)
   have c4:=z68 (cur:=cs) (new:=#[Value.int .i64 id]) (off:=(m.a6.getD c.toNat []).length) (n:=1) rfl (by omega)
   generalize d7:(cs.toList.take (m.a6.getD c.toNat []).length++#[Value.int .i64 id].toList++cs.toList.drop ((m.a6.getD c.toNat []).length+1)).toArray=bh at b4 c4
   have a4:=setRow_heap w g cs bh ty (0,0) hh
   refine hK _ _ _ _ _ (agv (c:=c) (x:=a8 (m.a6.getD c.toNat []++[id])) hR hL hA hG d5 b6 (d4 g d3) (λj X ck u hu=>?_) ?_) (zv _ _ _) λs x a1 a2 a3 hs hx=>?_
   . have hu:au w F u (fg N (m.a6.getD j [])):=hu
     show au _ F u (fg N (m.a6.getD j []))
     have R:=λh1=>zuv hM ck X hc h1 h0
     unfold fg at hu ⊢
     generalize m.a6.getD j []=lj at hu R ⊢
     generalize hf:(λi=>AV.int .i64 (lj.getD i 0))=f at hu ⊢
     generalize hn:lj.length=n at hu ⊢ R
     cases hu with
     |fJ=>exact .fJ _ _ _
     |cz _ g2 o2 _ bk _ _ V k1 k2 k3 k4 k5 k6=>
      subst hf
      have Z:g2≠g:=λe=>by
       subst e
       obtain⟨rfl,a5,_⟩:=k3
       have e1:=k5 0 a5 0 am
       have e2:au w F (V 0 0) (.int .i64 (lj.getD 0 0)):=k6 0 a5 0 am
       have e3:w.cell? ⟨g2,0,none⟩=some (V 0 0):=e1
       rw[nq hh (by omega),(r 0 h0).1,(zbj e2).1]at e3
       exact R a5 (Value.int.inj (gk e3)).2.symm
      exact .cz N g2 o2 n bk .leaf (λi=> .int .i64 (lj.getD i 0)) V k1 k2 (by rw[pC Z];exact k3) k4 (λi hi j X=>(World.cell?_of_block (pC Z)).trans (k5 i hi j X)) λi hi j X=>zg3 (k6 i hi j X) rfl
   . unfold a8
     rw[show(m.a6.getD c.toNat []++[id]).length=(m.a6.getD c.toNat []).length+1 by simp]
     refine .seq g 0 _ cap .leaf _ (λi _=>bh.getD i undef) b6 J (λi hi j X=>?_) λi hi j X=>?_
     . obtain rfl:j=0:=by have :j<1:=X;omega
       show World.cell? _ ⟨g,0+(i*1+0),none⟩=_
       rw[xw,jf,wd]
       exact nq a4 (by omega)
     . rw[b4 i]
       show au _ F _ (.int .i64 ((m.a6.getD c.toNat []++[id]).getD i 0))
       by_cases e:i<(m.a6.getD c.toNat []).length
       . rw[x8 (by omega),(r i e).1,x7 (l:=_++[id]),ya e,<- x7]
         exact .int _ _ (r i e).2
       . obtain rfl:i=(m.a6.getD c.toNat []).length:=by omega
         rw[x9 (by omega),yz,x7 (l:=_++[id]),y6 (xm _),yz]
         exact .int _ _ d1
   . rw[zb _ _ _ _ a3];exact zsc hx hs
end
theorem rO {t s:Nat} {z y:AV} (h:AV.get [(t,z)] s=some y):s=t/\y=z:=by grind[AV.get,xc]
theorem zjw {t f s:Nat} {z e y:AV} (h:AV.get [(t,z),(f,e)] s=some y):(s=t/\y=z)∨s=f/\y=e:=by grind[AV.get,xc]
theorem zv0 {w:World} {F:Nat ->Prop} {N:Nat ->Prop} {v:Value} {l:List Int} (h:au w F v (fg N l)):au w F v (a8 l):=by
 unfold fg at h
 unfold a8
 generalize l.length=n at h ⊢
 cases h with
 |fJ=>exact .cH _ _ _ _
 |cz _ g o _ cap _ _ k j _ _ f i e=>exact .seq g o _ _ .leaf _ k j f i e
theorem aav {C:bu} {W0:AV.Entry} {F0:Nat ->Prop} {env l:List (Nat×AV)} {H:List (Nat×ar)} {a:Act} {w:World} {F:Nat ->Prop} {φ:Nat ->AV.Place} (h:Rel C W0 F0 ⟨env,H⟩ a w F φ) (hl:∀ s x,AV.get l s=some x ->AV.get env s=some x):Rel C W0 F0 ⟨l,H⟩ a w F φ:=
 ⟨λs x hs=>h.env s x (hl s x hs),h.heap,h.inj,h.ro,h.base,h.sub,h.new,h.eR,h.iC,h.aoi,h.gV⟩
section
variable {N:Nat ->Prop} {m:Mem} {c id:Int} {W0:AV.Entry} {F0:Nat ->Prop} {a:Act} {w:World} {F:Nat ->Prop} {φ:Nat ->AV.Place} {D:Nat ->Bool} {Q:Exit ->Act ->World ->Prop}
theorem ain {s:Nat} {x:AV} (h:AV.get (S7 N m c id).env s=some x):qU x=true:=by
 simp[S7,AV.get]at h
 repeat' split at h
 all_goals (cases h;try rfl)
theorem adl {k:Nat} {y:AV} (h:fx N m c id k=some y) (f:k≠7) (h2:k≠9) (e:k≠10):qU y=true:=by
 unfold fx at h
 split at h
 all_goals first
  |cases h;rfl
  |cases h;done
  |exact absurd rfl f
  |exact absurd rfl h2
  |exact absurd rfl e
theorem aec {f f':Nat ->AV} (b:Nat):AV.get (AV.put (HQ m f) 114690 (.row 29 .leaf m.a6.length f')) b=AV.get (HQ m f') b:=by
 by_cases e:b=114690
 . subst e;rw[zv];rfl
 . rw[zb _ _ _ _ e]
   simp[HQ,AV.get,Z7 (Ne.symm e)]
theorem ajw (hM:jZ m) (Z:0<=c) (V:c.toNat<m.a6.length) (hq:(m.a6.getD c.toNat []).length<=1000000) (Y:aM .i64 id) (a1:∀ k,N k ->¬ F0 k) (hL:∀ k,¬ W0.L k) (hA:∀ b,W0.A b=none) (hG:∀ g x,AV.get (GN N) g=some x ->au W0.w F0 (.pointer (some ⟨g,0,none⟩)) x) (a2:∀ k,F0 k ->k<W0.w.heap.size)
 {i:Nat} {o:Oper} (U:gJ[i]? =some o) (u:D i=false) (J:∀ e∈o.after.toList,Region.binds .any e=true ->D e.on=true) (r:I8 N m c id W0 F0 D a w):o.guard=none/\o.wp Tryz.prog a w (I8 N m c id W0 F0 λk=>D k || Nat.beq k i) Q:=by
 have hi:i<13:=by rw[<- sz8];exact(xj.1 U).1
 have f:=zn4 r.1 U J
 have an:=Gi r.1 i o U J
 have E:∀ k,gJ[k]? =some (o8 k) ->((mg gJ.toList []).getD k 0).testBit i=true ->D k=false:=λk ho' hb=>by
  cases hk:D k with
  |false=>rfl
  |true=>
   have :=Gi r.1 k _ ho' (r.1 k _ hk ho') i hb
   rw[u]at this;cases this
 have eo:=akv U
 have ok:∀ k,(Nat.beq k 7 || Nat.beq k 9)=false ->(D 10&&(Nat.beq k 7 || Nat.beq k 9))=false:=λk h=>by rw[h,Bool.and_false]
 have ix:∀ p∈[af c m.a6.length],p:=λp hp=>by rw[jt.1 hp];exact⟨Z,O⟩
 have R:D 10=false ->(bif D 10 then fU N m c else fN N m)=fN N m:=λh=>by rw[h];rfl
 match i,hi with
 |0,_=>exact⟨by rw[eo];kernel_rfl,qR eo am am (p0 N m _) rfl ap (E 12 ac ac) f r λs y hs=>by obtain⟨rfl,rfl⟩:=rO hs;exact .inl rfl⟩
 |1,_=>exact⟨by rw[eo];kernel_rfl,qR eo am am (p1 N m _) rfl ap (E 12 ac ac) f r λs y hs=>by obtain⟨rfl,rfl⟩:=rO hs;exact .inr ⟨0,rfl,an 0 ac,ok 0 rfl,rfl⟩⟩
 |2,_=>exact⟨by rw[eo];kernel_rfl,qR eo am am (p2 N m c _) rfl ap (E 12 ac ac) f r λs y hs=>by obtain⟨rfl,rfl⟩:=rO hs;exact .inl rfl⟩
 |3,_=>exact⟨by rw[eo];kernel_rfl,qR eo am am (p3 N m _) rfl ap (E 12 ac ac) f r λs y hs=>by obtain⟨rfl,rfl⟩:=rO hs;exact .inl rfl⟩
 |4,_=>exact⟨by rw[eo];kernel_rfl,qR eo am am (p4 N m _) rfl ap (E 12 ac ac) f r λs y hs=>by obtain⟨rfl,rfl⟩:=rO hs;exact .inr ⟨3,rfl,an 3 ac,ok 3 rfl,rfl⟩⟩
 |5,_=>exact⟨by rw[eo];kernel_rfl,qR eo am am (p5 N m c _) rfl ap (E 12 ac ac) f r λs y hs=>by obtain⟨rfl,rfl⟩:=rO hs;exact .inl rfl⟩
 |6,_=>exact⟨by rw[eo];kernel_rfl,qR eo am am (p6 N m c _) rfl ix (E 12 ac ac) f r λs y hs=>by
  rcases zjw hs with⟨rfl,rfl⟩ | ⟨rfl,rfl⟩
  . exact .inr ⟨4,rfl,an 4 ac,ok 4 rfl,rfl⟩
  . exact .inr ⟨5,rfl,an 5 ac,ok 5 rfl,rfl⟩⟩
 |7,_=>exact⟨by rw[eo];kernel_rfl,qR eo am am (by rw[R (E 10 ac ac)];exact p7 N m c) rfl (λp hp=>by rw[jt.1 hp];exact V) (E 12 ac ac) f r λs y hs=>by obtain⟨rfl,rfl⟩:=rO hs;exact .inr ⟨6,rfl,an 6 ac,ok 6 rfl,rfl⟩⟩
 |8,_=>exact⟨by rw[eo];kernel_rfl,qR eo am am (p8 N m id _) rfl ap (E 12 ac ac) f r λs y hs=>by obtain⟨rfl,rfl⟩:=rO hs;exact .inl rfl⟩
 |9,_=>exact⟨by rw[eo];kernel_rfl,qR eo am am (p9 N m id _) rfl (λp hp=>by rw[jt.1 hp];decide) (E 12 ac ac) f r λs y hs=>by obtain⟨rfl,rfl⟩:=rO hs;exact .inr ⟨8,rfl,an 8 ac,ok 8 rfl,rfl⟩⟩
 |11,_=>exact⟨by rw[eo];kernel_rfl,qR eo am am (p11 N m c _) rfl ix (E 12 ac ac) f r λs y hs=>by
  rcases zjw hs with⟨rfl,rfl⟩ | ⟨rfl,rfl⟩
  . exact .inr ⟨1,rfl,an 1 ac,ok 1 rfl,rfl⟩
  . exact .inr ⟨2,rfl,an 2 ac,ok 2 rfl,rfl⟩⟩
 |10,_=>
  refine⟨by rw[eo];kernel_rfl, ?_⟩
  have h12:=E 12 ac ac
  have r:=r.2
  rw[h12]at r
  have⟨env,F,φ,M,hb,hf⟩:=r
  rw[R u]at M
  refine aht eo hM V hq Y a1 hL hA hG a2 M (hf 7 _ (an 7 ac) (by rw[u];rfl) rfl) (hf 9 _ (an 9 ac) (by rw[u];rfl) rfl) λenv' a' w' F' φ' hR' h1 h2=>⟨f, ?_⟩
  have e:(D 12 || Nat.beq 12 10)=false:=by rw[h12];rfl
  have e2:(D 10 || Nat.beq 10 10)=true:=by rw[u];rfl
  simp only[e,e2]
  refine⟨env',F',φ',hR',λs y hs=>h2 s y (by have :=zg4 hs;omega) (by have :=zg4 hs;omega) (by have :=zg4 hs;omega) (hb s y hs) (ain hs),λk y hk hk2 hk3=>?_⟩
  by_cases e10:k=10
  . subst e10;cases hk3;exact h1
  . rw[Z7 e10,Bool.or_false]at hk
    have n7:k≠7:=λe=>by subst e;cases hk2
    have n9:k≠9:=λe=>by subst e;cases hk2
    exact h2 (28+k) y O O O (hf k y hk (by rw[u];rfl) hk3) (adl hk3 n7 n9 e10)
 |12,_=>
  refine⟨by rw[eo];kernel_rfl, ?_⟩
  have H:=an 10 ac
  have r:=r.2
  rw[u]at r
  have⟨env,F,φ,M,hb,hf⟩:=r
  simp only[H,cond_true]at M
  have hS:Rel (z5c N m 45) W0 F0 ⟨C8 m c id,HQ m (fU N m c)⟩ a w F φ:=aav M λs x hs=>by
   simp only[C8,AV.get]at hs
   repeat' split at hs
   . rename_i e;have :=xc e;subst this;cases hs;exact hf 10 _ H (by rw[H];rfl) rfl
   . rename_i e;have :=xc e;subst this;cases hs;exact hf 11 _ (an 11 ac) (by rw[H];rfl) rfl
   . rename_i e;have :=xc e;subst this;cases hs;exact hb 8 _ rfl
   . rename_i e;have :=xc e;subst this;cases hs;exact hb 6 _ rfl
   . cases hs
  rw[eo]
  have :=C0 (Q:=Q) (ops:=gJ) (K:=I8 N m c id W0 F0 λk=>D k || Nat.beq k 12) hS (Cq N m 45) ccE (p12 N m c id) (λp hp=>by rw[jt.1 hp];exact V) λa' w' F' φ' hR'=>⟨f,by
   have e:(D 12 || Nat.beq 12 12)=true:=by rw[u];rfl
   simp only[e]
   refine⟨F',φ', ?_⟩
   have h1:Rel (z5c N m 45) W0 F0 ⟨C8 m c id,HQ m (f12 N m c id)⟩ a' w' F' φ':=hR'.alike (λ_=>rfl) λb=>(aec b).symm
   have h2:=Yb (f':=λj=>a8 ((mr m c id).a6.getD j [])) h1 λj hj v hv=>by
    have hv:au w' F' v (f12 N m c id j):=by
     have :z6 .leaf (f12 N m c id j) 0=f12 N m c id j:=by
      unfold f12 fU
      split
      . rfl
      . rfl
     rw[this]at hv;exact hv
    show au _ _ _ (a8 ((m.a6.set c.toNat (m.a6.getD c.toNat []++[id])).getD j []))
    unfold f12 fU at hv
    by_cases X:j=c.toNat
    . subst X
      rw[x9 rfl]at hv
      rw[x7 (l:=m.a6.set _ _),List.getElem?_set_self V]
      exact hv
    . rw[x8 X,x8 X]at hv
      rw[x7 (l:=m.a6.set _ _),k9 (Ne.symm X),<- x7]
      exact zv0 hv
   have h3:=aav (l:=[(8, .ptr 8 []),(6, .ptr 6 [])]) h2 λs x hs=>by
    rcases zjw hs with⟨rfl,rfl⟩ | ⟨rfl,rfl⟩<;>rfl
   have el:HQ (mr m c id)=HQ m:=by unfold HQ aa8 mr;simp only[yy]
   unfold S8
   rw[el]
   exact h3⟩
  rw[x9 (by rw[Region.wanted];rfl)]at this
  exact this
theorem afi (V:jZ m) (u:0<=c) (U:c.toNat<m.a6.length) (Q:(m.a6.getD c.toNat []).length<=1000000) (r:aM .i64 id) (y:∀ k,N k ->¬ F0 k) (X:∀ k,¬ W0.L k) (Z:∀ b,W0.A b=none) (Y:∀ g x,AV.get (GN N) g=some x ->au W0.w F0 (.pointer (some ⟨g,0,none⟩)) x) (H:∀ k,F0 k ->k<W0.w.heap.size)
 (K:Rel (z5c N m 45) W0 F0 (S7 N m c id) a w F φ):(Code.region 8 gJ true).wp Tryz.prog (λe a' M=>e= .normal/\∃ F φ,Rel (z5c N m 45) W0 F0 (S8 (mr m c id)) a' M F φ) a w:=by
 refine zux (I8 N m c id W0 F0) ac ⟨λk o f=>(by cases f), ?_⟩ (λD i o a w R J s E=>ajw V u U Q r y X Z Y H R J s E) λD a w j E=>⟨rfl, ?_⟩
 . exact⟨_,F,φ,K.grown ⟨rfl,rfl,rfl,xm _,λ_ _=>rfl⟩ (λ_ f=>f) (λ_ f=> .inl f) K.ro,λ_ _ h=>h,λi x h=>by cases h⟩
 . have h:=E.2
   rw[j 12 (by rw[sz8];decide)]at h
   exact h
end
theorem eqB:Tryz.f97.body=some uY:=ac
theorem ae2:wK:=λm c id hm=> .inl ⟨jH.of (fn:=Tryz.f97) Tryz.func97 ac ac,λw F vs hro hgl hsz hr=>by
 obtain⟨N,hN⟩:∃ N:Nat ->Prop,N=λk=>¬ F k:=⟨_,rfl⟩
 have hglN:∀ g x,AV.get (GN N) g=some x ->au w F (.pointer (some ⟨g,0,none⟩)) x:=λg x hg=>by
  simp only[GN,AV.get]at hg
  split at hg
  . cases hg;exact .jS _ _ rfl λk=>by rw[hN];exact Classical.em (F k)
  . exact hgl g x hg
 have hid:aM .i64 id:=(zbj (hr 2 (show 2<3 by decide))).2
 have hR:=Rel.start (C:=z5c N m 45) (fn:=Tryz.f97) (args:=[vM m,d9 c,d9 id]) ac (show 3<=45 by decide) hro hglN hsz hr
 have s3:=hm.a6
 have fin:∀ {a':Act} {w':World} {F':Nat ->Prop} {φ':Nat ->AV.Place},Rel (z5c N m 45) (.of w) F (SR m c id) a' w' F' φ' ->bodyPost Tryz.prog Tryz.f97 (λen w'=>∃ v F',en= .returned v/\Below w.heap.size w w'/\(∀ k,F k ->F' k)/\(∀ k,F' k ->F k∨w.heap.size<=k)/\(∀ k,F' k ->k<w'.heap.size)/\dx w' F' v (.av [vM (aZ m c id).1,d9 (aZ m c id).2])) .ret a' w':=λhR=>⟨hR.eR,zkg (V:=Yt N m c id 45 λ_=>[]) (fn:=Tryz.f97) (r:= .av [vM (aZ m c id).1,d9 (aZ m c id).2]) (Cq N m 45) hR (by
  have e:(match znt (z5c N m 45) (SR m c id) Tryz.f97.results.toList with |some (x,ps)=>ap0 ps (AV.wz [] [] x (.av [vM (aZ m c id).1, .int .i64 (aZ m c id).2])).P |none=>False)=(AV.wz [] [] (.av [vM (aZ m c id).1, .int .i64 (aZ m c id).2]) (.av [vM (aZ m c id).1, .int .i64 (aZ m c id).2])).P:=ac
  exact Eq.mpr e (le_refl _ _ _))⟩
 refine calls_of_wp Tryz.func97 eqB (zs9 (V:=Yt N m c id 45 λ_=>[]) (Cq N m 45) ccE (λ_=>rfl) 4 uY ⟨z87 0 [vM m,d9 c,d9 id],[]⟩ (pB (some (ca m=true/\bC m c m.a6.length=0/\¬ id<0,S7 N m c id)) none (some (True,SR m c id))) _ _ _ _ (aic N m c id hm) hR ?_)
 rintro e st' a' w' F' φ' h1 h2
 cases e with
 |normal=>
  have⟨⟨hfm,hins,hlt⟩,hle⟩:=h2
  have⟨φ2,hR2⟩:=h1.weaken hle
  have hc:=kM hins
  have hq:=hm.q c.toNat
  show(vY 4 uY).wp Tryz.prog _ a' w'
  rw[ajt]
  refine wp_seq (wp_mono (afi (z47.1 hfm) O O O hid (λk hk=>by rw[hN]at hk;exact hk) (λ_ h=>h) (λ_=>rfl) hglN hro hR2) ?_)
  rintro e a3 w3 ⟨rfl,F3,φ3,hR3⟩
  refine wp_mono (YL (V:=Yt N m c id 45 fzR) (Cq N m 45) ccE (vY 5 uY) (S8 (mr m c id)) (pB none none (some (True,SR m c id))) _ _ _ _ (ajx N m c id hm hfm hins hlt) hR3) ?_
  rintro e a4 w4 ⟨st4,F4,φ4,hR4,hq4⟩
  cases e with
  |ret=>
   have⟨φ5,hR5⟩:=hR4.weaken hq4.2
   exact fin hR5
  |_=>exact hq4.elim
 |ret=>
  have⟨φ2,hR2⟩:=h1.weaken h2.2
  exact fin hR2
 |_=>exact h2.elim⟩
end Go.Proofs.S25
