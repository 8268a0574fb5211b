import Derived.Test.YtgcpdfihjmmggaaGreatDoorXzi
namespace Go.Proofs.S25
open Go Go.AV
open Go.IntKind renaming i64 -> j6
open Go.AV.Shape (leaf)
noncomputable section
def aov (e:Ev):alk:=aoj.getD (e.kind - 1).toNat aok
def aou (e:Ev):Bool:=
 if(decide (e.kind<1) || decide (17<e.kind) || decide (e.idx<0) || (decide (e.aC<0) !=(e.kind==4)))=true then false else
 if(decide (e.obj<0) || ((aov e).most != -1&&decide ((aov e).most<e.obj)) || decide (e.read<(aov e).low) || ((aov e).high != -1&&decide ((aov e).high<e.read)))=true then false else
 if((aov e).order&&(decide (e.ord<0) || decide (2<e.ord)) || !(aov e).order&&e.ord !=0)=true then false else
 if((aov e).wrote&&(decide (e.wrote< -2147483648) || decide (2147483647<e.wrote)) || !(aov e).wrote&&e.wrote !=0)=true then false else
 if((aov e).least== -2&&e.entry != -1 || decide (e.entry<(aov e).least))=true then false else
 if e.kind=12 then decide (0<=e.mutex)&&decide (e.mutex<4)else e.mutex== -1
def oFv:FuncId ->List AV ->Option AV
 |59,[.int _ a]=>some (.bool (decide (a<0)))
 |_,_=>none
noncomputable def ap3 (n:Nat):bu:={eM n with G:=GE}
theorem auv (n:Nat):gn (ap3 n):=ll (ac)
noncomputable def vFv (n:Nat) (I:Nat ->Option Inv):bm:={C:=ap3 n,CC:=eS Tryz.prog GE,b9:=λ_ _=>oFv,inv:=I}
theorem ap7 {f:FuncId} {args:List AV} {r:AV} (h:KN f args r):eS Tryz.prog GE f args r:=
 h.imp_left λh=>⟨h.1,λw F k a b=>h.2 w F k a λg x j=>b g x (by
  have e:AV.get GE g=match Nat.beq 0 g with |true=>some (.bo (.arr 17 zy) (.arr 17 λi=>au7 (aoj.getD i aok))) |false=>AV.get GG g:=rfl
  rw[e]
  split
  . rename_i q
    have q:=xc q
    subst q
    exact absurd j (by simp[GG,AV.get])
  . exact j)⟩
theorem aor {a x k o m n d r w most low high least e:Int} {f wr j:Bool} (i:aoj.getD (k - 1).toNat aok=⟨most,f,low,high,wr,least,e,j⟩) (K:1<=k/\k<=17) (h2:0<=x) (E:a<0↔k=4) (J:0<=o/\(most= -1∨o<=most)/\low<=r/\(high= -1∨r<=high))
 (u:if f then 0<=d/\d<=2 else d=0) (s:if wr then -2147483648<=w/\w<=2147483647 else w=0) (H:(least= -2 ->n= -1)/\least<=n) (F:if k=12 then 0<=m/\m<4 else m= -1):aou ⟨a,x,k,o,m,n,d,r,w⟩=true:=by
 have i:aov ⟨a,x,k,o,m,n,d,r,w⟩=⟨most,f,low,high,wr,least,e,j⟩:=i
 unfold aou
 rw[i,x8,x8,x8,x8,x8]
 . simp_all
 . grind
 . dsimp only;cases wr<;>simp at s ⊢ <;>omega
 . dsimp only;cases f<;>simp at u ⊢ <;>omega
 . simp;omega
 . have y:(decide (a<0) !=(k==4))=false:=by
    by_cases q:k=4
    . grind
    . have :¬ a<0:=λh=>q (E.1 h)
      simp[q,this]
   grind
theorem aub {b:bR} (h:bQ b=true) (x:Int):∀ k,0<=(mB b x k).2.1
 |0=>yr _
 |k+1=>by
  unfold mB
  split
  . have :=((z21 b).1 h).1.2.1
    show 0<=b.first+(k:Int);omega
  . exact aub h x k
theorem av3 (s:ag) (k:Nat) (x:Int): -1<=(fm s k x).2:=by
 unfold fm
 split
 . rename_i q
   unfold eY at q ⊢
   split
   . decide
   . rename_i h;exact Int.le_trans am (aub (by simpa using h) x _)
 . omega
theorem avd {s:ag} {t:aB} {i:aK} (y:jZ s.mem) (G:mA s.mem i) (M:atl s.mem i) (V:dN i=0) (h0:0<=t.id) (h:0<=t.steps) (K:∀ j,-2147483648<=bp t j/\bp t j<=2147483647) (R:∀ u∈s.ab,0<=u.id) (U:z20 s t i=true) (Y:¬ i.op=8) (F:¬ i.op=14) (X:¬ i.op=9):aou (aR s t i)=true:=by
 have k:=G.v
 have x:=G.ok.q
 have l1:=y.vars
 have l2:=y.aa
 have l3:=y.a6
 have m:=M.o
 have mn:=M.n
 have f:=oa.1 (zrn G.form i.obj)
 have⟨H,_,_,Z⟩:=zj1 V
 rcases zbg G.ok.op with e |e |e |e |e |e |e |e |e |e |e |e |e |e |e
 . exact absurd e Y
 . exact absurd e X
 . have o:=H (by rw[e];decide)
   have E:aR s t i=⟨t.id,t.steps,5,i.obj,-1,-1,i.ord,(fo s.mem i.obj).1,bp t i.b⟩:=by simp only[aR,bz,iP,e,reduceIte,Int.reduceEq,ju,jv,jr]
   rw[E]
   have :=K i.b
   exact aor rfl am h (by show t.id<0↔(5:Int)=4;omega) ⟨(k O).1, .inr (by have :=(k O).2;show i.obj<=7;omega),f.1, .inr f.2⟩ o this ⟨λ_=>rfl,am⟩ rfl
 . have o:=H (by rw[e];decide)
   have E:aR s t i=⟨t.id,t.steps,5,i.obj,-1,-1,i.ord,(fo s.mem i.obj).1,(app 1 (fo s.mem i.obj).1 (bp t i.b)).1⟩:=by simp only[aR,bz,iP,e,reduceIte,Int.reduceEq,ju,jv,jr]
   rw[E]
   exact aor rfl am h (by show t.id<0↔(5:Int)=4;omega) ⟨(k O).1, .inr (by have :=(k O).2;show i.obj<=7;omega),f.1, .inr f.2⟩ o (aoa _ _ _) ⟨λ_=>rfl,am⟩ rfl
 . have o:=H (by rw[e];decide)
   by_cases q:(fo s.mem i.obj).1=bp t i.b
   . have E:aR s t i=⟨t.id,t.steps,5,i.obj,-1,-1,i.ord,(fo s.mem i.obj).1,bp t i.c⟩:=by simp only[aR,bz,iP,e,q,reduceIte,Int.reduceEq,ju,jv,jr]
     rw[E]
     exact aor rfl am h (by show t.id<0↔(5:Int)=4;omega) ⟨(k O).1, .inr (by have :=(k O).2;show i.obj<=7;omega),f.1, .inr f.2⟩ o (K i.c) ⟨λ_=>rfl,am⟩ rfl
   . have E:aR s t i=⟨t.id,t.steps,6,i.obj,-1,-1,i.ord,(fo s.mem i.obj).1,0⟩:=by simp only[aR,bz,iP,e,q,reduceIte,Int.reduceEq,ju,jv,jr]
     rw[E]
     exact aor rfl am h (by show t.id<0↔(6:Int)=4;omega) ⟨(k O).1, .inr (by have :=(k O).2;show i.obj<=7;omega),f.1, .inr f.2⟩ o rfl ⟨λ_=>rfl,am⟩ rfl
 . have o:i.obj=0:=Z 3 am (by rw[e];decide)
   have E:aR s t i=⟨t.id,t.steps,7,i.obj,-1,-1,0,0,0⟩:=by simp only[aR,iP,e,reduceIte,Int.reduceEq,ju,jv,jr]
   rw[E,o]
   exact aor rfl am h (by show t.id<0↔(7:Int)=4;omega) am rfl rfl ⟨λ_=>rfl,am⟩ rfl
 . exact absurd e F
 . have E:aR s t i=⟨t.id,t.steps,9,i.obj,-1,-1,0,0,0⟩:=by simp only[aR,iP,e,reduceIte,Int.reduceEq,ju,jv,jr]
   rw[E]
   exact aor rfl am h (by show t.id<0↔(9:Int)=4;omega) ⟨(m O).1, .inr (by have :=(m O).2;show i.obj<=3;omega),yr _, .inr (yr _)⟩ rfl rfl ⟨λ_=>rfl,am⟩ rfl
 . have E:aR s t i=⟨t.id,t.steps,10,i.obj,-1,-1,0,0,0⟩:=by simp only[aR,iP,e,reduceIte,Int.reduceEq,ju,jv,jr]
   rw[E]
   exact aor rfl am h (by show t.id<0↔(10:Int)=4;omega) ⟨(m O).1, .inr (by have :=(m O).2;show i.obj<=3;omega),yr _, .inr (yr _)⟩ rfl rfl ⟨λ_=>rfl,am⟩ rfl
 . have E:aR s t i=⟨t.id,t.steps,11,i.obj,-1,-1,0,ek (iJ s.mem i.obj),0⟩:=by simp only[aR,iP,e,reduceIte,Int.reduceEq,ju,jv,jr]
   rw[E]
   have :0<=ek (iJ s.mem i.obj)/\ek (iJ s.mem i.obj)<=1:=by unfold ek;split<;>decide
   exact aor rfl am h (by show t.id<0↔(11:Int)=4;omega) ⟨(m O).1, .inr (by have :=(m O).2;show i.obj<=3;omega),this.1, .inr this.2⟩ rfl rfl ⟨λ_=>rfl,am⟩ rfl
 . have q:=x O
   by_cases z:t.phase=0
   . have E:aR s t i=⟨t.id,t.steps,12,i.obj,i.n,-1,0,0,0⟩:=by simp only[aR,im,z,iP,e,reduceIte,Int.reduceEq,ju,jv,jr]
     rw[E]
     exact aor rfl am h (by show t.id<0↔(12:Int)=4;omega) ⟨q.1, .inr (by show i.obj<=3;omega),yr _, .inr (yr _)⟩ rfl rfl ⟨λ_=>rfl,am⟩ (by rw[x9 (by rfl)];show 0<=i.n/\i.n<4;have :=mn e;omega)
   . by_cases J:t.phase=1
     . have E:aR s t i=⟨t.id,t.steps,13,i.obj,-1,-1,0,0,0⟩:=by simp only[aR,im,J,iP,e,reduceIte,Int.reduceEq,ju,jv,jr]
       rw[E]
       exact aor rfl am h (by show t.id<0↔(13:Int)=4;omega) ⟨q.1, .inr (by show i.obj<=3;omega),yr _, .inr (yr _)⟩ rfl rfl ⟨λ_=>rfl,am⟩ rfl
     . have E:aR s t i=⟨t.id,t.steps,9,i.n,-1,-1,0,0,0⟩:=by simp only[aR,im,z,J,iP,e,reduceIte,Int.reduceEq,ju,jv,jr]
       rw[E]
       exact aor rfl am h (by show t.id<0↔(9:Int)=4;omega) ⟨(mn e).1, .inr (by show i.n<=3;have :=mn e;omega),yr _, .inr (yr _)⟩ rfl rfl ⟨λ_=>rfl,am⟩ rfl
 . have q:=x O
   have E:aR s t i=⟨t.id,t.steps,14,i.obj,-1,-1,0,min 1 (nK s.mem i.obj),0⟩:=by simp only[aR,iP,e,reduceIte,Int.reduceEq,ju,jv,jr]
   rw[E]
   have :0<=nK s.mem i.obj:=Int.natCast_nonneg _
   exact aor rfl am h (by show t.id<0↔(14:Int)=4;omega) ⟨q.1, .inr (by show i.obj<=3;omega),by show 0<=min 1 _;omega, .inr (by show min 1 _<=(1:Int);omega)⟩ rfl rfl ⟨λ_=>rfl,am⟩ rfl
 . have q:=x O
   have E:aR s t i=⟨t.id,t.steps,15,i.obj,-1,-1,0,nK s.mem i.obj,0⟩:=by simp only[aR,iP,e,reduceIte,Int.reduceEq,ju,jv,jr]
   rw[E]
   exact aor rfl am h (by show t.id<0↔(15:Int)=4;omega) ⟨q.1, .inr (by show i.obj<=3;omega),Int.natCast_nonneg _, .inl rfl⟩ rfl rfl ⟨λ_=>rfl,am⟩ rfl
 . have E:aR s t i=⟨t.id,t.steps,16,eU t,-1,-1,0,0,0⟩:=by simp only[aR,iP,e,reduceIte,Int.reduceEq,ju,jv,jr]
   rw[E]
   exact aor rfl am h (by show t.id<0↔(16:Int)=4;omega) ⟨afx t, .inl rfl,yr _, .inr (yr _)⟩ rfl rfl ⟨λ_=>rfl,am⟩ rfl
 . have E:aR s t i=⟨t.id,t.steps,17,bp t i.b,-1,-1,0,0,0⟩:=by simp only[aR,iP,e,reduceIte,Int.reduceEq,ju,jv,jr]
   rw[E]
   have r:xT s.ab (bp t i.b)=true:=by simpa only[z20,e,reduceIte,Int.reduceEq]using U
   unfold xT at r
   rw[xa,xd]at r
   have⟨Q,N⟩:=nL r.1
   have :=R _ (aow Q)
   rw[N]at this
   exact aor rfl am h (by show t.id<0↔(17:Int)=4;omega) ⟨this, .inl rfl,yr _, .inr (yr _)⟩ rfl rfl ⟨λ_=>rfl,am⟩ rfl
end
end Go.Proofs.S25
