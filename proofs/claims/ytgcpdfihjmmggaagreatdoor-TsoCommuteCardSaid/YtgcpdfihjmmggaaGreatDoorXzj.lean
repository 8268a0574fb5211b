import Derived.Test.YtgcpdfihjmmggaaGreatDoorXzi
namespace Go.Proofs.S25
open Go Go.AV Tryz
open Go.IntKind renaming i64 -> j6
open Go.AV.ex (ey)
noncomputable section
def rg (e:Ev):alk:=m5.getD (e.kind - 1).toNat m7
def pp (e:Ev):Bool:=
 if(decide (e.kind<1) || decide (17<e.kind) || decide (e.ly<0) || (decide (e.aC<0) !=(e.kind==4)))=true then false else
 if(decide (e.ii<0) || ((rg e).most != -1&&decide ((rg e).most<e.ii)) || decide (e.read<(rg e).low) || ((rg e).high != -1&&decide ((rg e).high<e.read)))=true then false else
 if((rg e).order&&(decide (e.ord<0) || decide (2<e.ord)) || !(rg e).order&&e.ord !=0)=true then false else
 if((rg e).i4&&(decide (e.i4< -2147483648) || decide (2147483647<e.i4)) || !(rg e).i4&&e.i4 !=0)=true then false else
 if((rg e).least== -2&&e.entry != -1 || decide (e.entry<(rg e).least))=true then false else
 if e.kind=12 then decide (0<=e.k7)&&decide (e.k7<4)else e.k7== -1
def oFv:FuncId ->List AV ->Option AV
 |59,[.int _ a]=>some (.bool (decide (a<0)))
 |_,_=>none
noncomputable def At (n:Nat):ls:={eM n with G:=GE}
theorem auv (n:Nat):gn (At n):=ll (ac)
noncomputable def vFv (n:Nat) (I:Nat ->Option lm):bm:={C:=At n,CC:=mp prog GE,b9:=λ_ _=>oFv,inv:=I}
theorem u6 {f:FuncId} {args:List AV} {r:AV} (h:KN f args r):mp prog GE f args r:=
 h.imp_left λh=>⟨h.1,λw F k a b=>h.2 w F k a λg x j=>b g x (by
  have e:AV.get GE g=match Nat.beq 0 g with |true=>some (.bo (.arr 17 zy) (.arr 17 λi=>au7 (m5.getD i m7))) |false=>AV.get GG g:=rfl
  rw[e]
  split
  rename_i q
  have q:=xc q
  subst q
  exact absurd j (by simp[GG,AV.get])
  exact j)⟩
theorem t6 {a x k o m n d r w most low high least e:Int} {f wr j:Bool} (i:m5.getD (k - 1).toNat m7=⟨most,f,low,high,wr,least,e,j⟩) (K:1<=k/\k<=17) (h2:0<=x) (E:a<0↔k=4) (J:0<=o/\(most= -1∨o<=most)/\low<=r/\(high= -1∨r<=high))
 (u:if f then 0<=d/\d<=2 else d=0) (s:if wr then -2147483648<=w/\w<=2147483647 else w=0) (H:(least= -2 ->n= -1)/\least<=n) (F:if k=12 then 0<=m/\m<4 else m= -1):pp ⟨a,x,k,o,m,n,d,r,w⟩=true:=by
 have i:rg ⟨a,x,k,o,m,n,d,r,w⟩=⟨most,f,low,high,wr,least,e,j⟩:=i;unfold pp;rw[i,x8,x8,x8,x8,x8];simp_all;grind;dsimp only;cases wr<;>simp at s ⊢ <;>omega;dsimp only;cases f<;>simp at u ⊢ <;>omega;simp;omega;have y:(decide (a<0) !=(k==4))=false:=by
  by_cases q:k=4;grind;have :¬ a<0:=λh=>q (E.1 h);simp[q,this]
 grind
theorem aub {b:bR} (h:bQ b) (x:Int):∀ k,0<=(mB b x k).2.1
 |0=>yr _
 |k+1=>by
  unfold mB
  split
  have :=((z21 b).1 h).1.2.1
  show 0<=b.first+(k:Int);omega
  exact aub h x k
theorem av3 (s:ja) (k:Nat) (x:Int): -1<=(fm s k x).2:=by
 unfold fm;split;rename_i q;unfold eY at q ⊢;split;decide;rename_i h;exact Int.le_trans am (aub (by simpa using h) x _);omega
theorem avd {s:ja} {t:i5} {i:aK} (F:jZ s.l5) (G:mA s.l5 i) (M:atl s.l5 i) (X:dN i=0) (h0:0<=t.id) (h:0<=t.io) (N:∀ j,-2147483648<=bp t j/\bp t j<=2147483647) (U:∀ u∈s.ab,0<=u.id) (V:z20 s t i) (Z:¬ i.op=8) (H:¬ i.op=14) (Y:¬ i.op=9):pp (m8 s t i)=true:=by
 have k:=G.v;have y:=G.ok.q;have l1:=F.eA;have l2:=F.aa;have l3:=F.a6;have m:=M.o;have mn:=M.n;have f:=oa.1 (zrn G.form i.ii);have⟨J,_,_,c4⟩:=zj1 X;rcases zbg G.ok.op with e |e |e |e |e |e |e |e |e |e |e |e |e |e |e;exact absurd e Z;exact absurd e Y;have o:=J (by rw[e];decide);have E:m8 s t i=⟨t.id,t.io,5,i.ii,-1,-1,i.ord,(fo s.l5 i.ii).1,bp t i.b⟩:=by simp only[m8,bz,iP,e,reduceIte,Int.reduceEq,ju,jv,jr]
 rw[E];have :=N i.b;exact t6 rfl am h (by show t.id<0↔(5:Int)=4;omega) ⟨(k O).1, .inr (by have :=(k O).2;show i.ii<=7;omega),f.1, .inr f.2⟩ o this ⟨λ_=>rfl,am⟩ rfl;have o:=J (by rw[e];decide);have E:m8 s t i=⟨t.id,t.io,5,i.ii,-1,-1,i.ord,(fo s.l5 i.ii).1,(app 1 (fo s.l5 i.ii).1 (bp t i.b)).1⟩:=by simp only[m8,bz,iP,e,reduceIte,Int.reduceEq,ju,jv,jr]
 rw[E];exact t6 rfl am h (by show t.id<0↔(5:Int)=4;omega) ⟨(k O).1, .inr (by have :=(k O).2;show i.ii<=7;omega),f.1, .inr f.2⟩ o (aoa _ _ _) ⟨λ_=>rfl,am⟩ rfl;have o:=J (by rw[e];decide);by_cases q:(fo s.l5 i.ii).1=bp t i.b;have E:m8 s t i=⟨t.id,t.io,5,i.ii,-1,-1,i.ord,(fo s.l5 i.ii).1,bp t i.c⟩:=by simp only[m8,bz,iP,e,q,reduceIte,Int.reduceEq,ju,jv,jr]
 rw[E];exact t6 rfl am h (by show t.id<0↔(5:Int)=4;omega) ⟨(k O).1, .inr (by have :=(k O).2;show i.ii<=7;omega),f.1, .inr f.2⟩ o (N i.c) ⟨λ_=>rfl,am⟩ rfl;have E:m8 s t i=⟨t.id,t.io,6,i.ii,-1,-1,i.ord,(fo s.l5 i.ii).1,0⟩:=by simp only[m8,bz,iP,e,q,reduceIte,Int.reduceEq,ju,jv,jr]
 rw[E];exact t6 rfl am h (by show t.id<0↔(6:Int)=4;omega) ⟨(k O).1, .inr (by have :=(k O).2;show i.ii<=7;omega),f.1, .inr f.2⟩ o rfl ⟨λ_=>rfl,am⟩ rfl;have o:i.ii=0:=c4 3 am (by rw[e];decide);have E:m8 s t i=⟨t.id,t.io,7,i.ii,-1,-1,0,0,0⟩:=by simp only[m8,iP,e,reduceIte,Int.reduceEq,ju,jv,jr]
 rw[E,o];exact t6 rfl am h (by show t.id<0↔(7:Int)=4;omega) am rfl rfl ⟨λ_=>rfl,am⟩ rfl;exact absurd e H;have E:m8 s t i=⟨t.id,t.io,9,i.ii,-1,-1,0,0,0⟩:=by simp only[m8,iP,e,reduceIte,Int.reduceEq,ju,jv,jr]
 rw[E];exact t6 rfl am h (by show t.id<0↔(9:Int)=4;omega) ⟨(m O).1, .inr (by have :=(m O).2;show i.ii<=3;omega),yr _, .inr (yr _)⟩ rfl rfl ⟨λ_=>rfl,am⟩ rfl;have E:m8 s t i=⟨t.id,t.io,10,i.ii,-1,-1,0,0,0⟩:=by simp only[m8,iP,e,reduceIte,Int.reduceEq,ju,jv,jr]
 rw[E];exact t6 rfl am h (by show t.id<0↔(10:Int)=4;omega) ⟨(m O).1, .inr (by have :=(m O).2;show i.ii<=3;omega),yr _, .inr (yr _)⟩ rfl rfl ⟨λ_=>rfl,am⟩ rfl;have E:m8 s t i=⟨t.id,t.io,11,i.ii,-1,-1,0,ek (iJ s.l5 i.ii),0⟩:=by simp only[m8,iP,e,reduceIte,Int.reduceEq,ju,jv,jr]
 rw[E];have :0<=ek (iJ s.l5 i.ii)/\ek (iJ s.l5 i.ii)<=1:=by unfold ek;split<;>decide
 exact t6 rfl am h (by show t.id<0↔(11:Int)=4;omega) ⟨(m O).1, .inr (by have :=(m O).2;show i.ii<=3;omega),this.1, .inr this.2⟩ rfl rfl ⟨λ_=>rfl,am⟩ rfl;have q:=y O;by_cases z:t.gH=0;have E:m8 s t i=⟨t.id,t.io,12,i.ii,i.n,-1,0,0,0⟩:=by simp only[m8,im,z,iP,e,reduceIte,Int.reduceEq,ju,jv,jr]
 rw[E];exact t6 rfl am h (by show t.id<0↔(12:Int)=4;omega) ⟨q.1, .inr (by show i.ii<=3;omega),yr _, .inr (yr _)⟩ rfl rfl ⟨λ_=>rfl,am⟩ (by rw[x9 (by rfl)];show 0<=i.n/\i.n<4;have :=mn e;omega);by_cases K:t.gH=1;have E:m8 s t i=⟨t.id,t.io,13,i.ii,-1,-1,0,0,0⟩:=by simp only[m8,im,K,iP,e,reduceIte,Int.reduceEq,ju,jv,jr]
 rw[E];exact t6 rfl am h (by show t.id<0↔(13:Int)=4;omega) ⟨q.1, .inr (by show i.ii<=3;omega),yr _, .inr (yr _)⟩ rfl rfl ⟨λ_=>rfl,am⟩ rfl;have E:m8 s t i=⟨t.id,t.io,9,i.n,-1,-1,0,0,0⟩:=by simp only[m8,im,z,K,iP,e,reduceIte,Int.reduceEq,ju,jv,jr]
 rw[E];exact t6 rfl am h (by show t.id<0↔(9:Int)=4;omega) ⟨(mn e).1, .inr (by show i.n<=3;have :=mn e;omega),yr _, .inr (yr _)⟩ rfl rfl ⟨λ_=>rfl,am⟩ rfl;have q:=y O;have E:m8 s t i=⟨t.id,t.io,14,i.ii,-1,-1,0,min 1 (nK s.l5 i.ii),0⟩:=by simp only[m8,iP,e,reduceIte,Int.reduceEq,ju,jv,jr]
 rw[E];have :0<=nK s.l5 i.ii:=Int.natCast_nonneg _;exact t6 rfl am h (by show t.id<0↔(14:Int)=4;omega) ⟨q.1, .inr (by show i.ii<=3;omega),by show 0<=min 1 _;omega, .inr (by show min 1 _<=(1:Int);omega)⟩ rfl rfl ⟨λ_=>rfl,am⟩ rfl;have q:=y O;have E:m8 s t i=⟨t.id,t.io,15,i.ii,-1,-1,0,nK s.l5 i.ii,0⟩:=by simp only[m8,iP,e,reduceIte,Int.reduceEq,ju,jv,jr]
 rw[E];exact t6 rfl am h (by show t.id<0↔(15:Int)=4;omega) ⟨q.1, .inr (by show i.ii<=3;omega),Int.natCast_nonneg _, .inl rfl⟩ rfl rfl ⟨λ_=>rfl,am⟩ rfl;have E:m8 s t i=⟨t.id,t.io,16,eU t,-1,-1,0,0,0⟩:=by simp only[m8,iP,e,reduceIte,Int.reduceEq,ju,jv,jr]
 rw[E];exact t6 rfl am h (by show t.id<0↔(16:Int)=4;omega) ⟨afx t, .inl rfl,yr _, .inr (yr _)⟩ rfl rfl ⟨λ_=>rfl,am⟩ rfl;have E:m8 s t i=⟨t.id,t.io,17,bp t i.b,-1,-1,0,0,0⟩:=by simp only[m8,iP,e,reduceIte,Int.reduceEq,ju,jv,jr]
 rw[E];have x:xT s.ab (bp t i.b)=true:=by simpa only[z20,e,reduceIte,Int.reduceEq]using V
 unfold xT at x;rw[xa,xd]at x;have⟨R,Q⟩:=nL x.1;have :=U _ (AC R);rw[Q]at this;exact t6 rfl am h (by show t.id<0↔(17:Int)=4;omega) ⟨this, .inl rfl,yr _, .inr (yr _)⟩ rfl rfl ⟨λ_=>rfl,am⟩ rfl
end
end Go.Proofs.S25
