import Derived.Test.YtgcpdfihjmmggaaGreatDoorXp
namespace Go.Proofs.S25
open Go Go.AV Go.RowKit Go.Sort
variable {w:World} {P:Program} {ro:Option Nat} {a:Act} (l:List Int)
theorem ztb {g:Nat} {cur:Array Value} {l:List Int} (h:w.heap[g]? =some (.cells cur 3 (0,0))) (hs:l.length<=cur.size) (hc:∀ j,j<l.length ->cur.getD j undef= .int .i64 (l.getD j 0)):Holds (Value.int .i64) w g 0 l.toArray:=by
 intro j hj
 have hj':j<l.length:=by simpa using hj
 have hlt:j<cur.size:=by omega
 have :=hc j hj'
 rw[xb,y4 hlt,yj]at this
 refine⟨?_,by simp[World.frozen?,h]⟩
 simp only[World.cell?,h,xw]
 rw[y4 hlt,this]
 simp[x7,hj']
theorem zh7 {g n:Nat} {cur:Array Value} {l l':List Int} {os:Array Obj} (h:w.heap[g]? =some (.cells cur 3 (0,0))) (hs:l.length<=cur.size) (hl:l'.length=l.length):
 (grow (putRow (Value.int .i64) (Sort.ahead w n) g 0 l'.toArray) os).heap[g]? =some (.cells (putCells (Value.int .i64) 0 l'.toArray cur) 3 (0,0))/\(putCells (Value.int .i64) 0 l'.toArray cur).size=cur.size/\∀ j,j<l'.length ->(putCells (Value.int .i64) 0 l'.toArray cur).getD j undef= .int .i64 (l'.getD j 0):=by
 refine⟨zoy h,by simp[putCells],λj hj=>?_⟩
 rw[zt8 (by simpa using hj) (by simp;omega)]
 simp[x7,hj]
theorem za4 {n:Nat} {P:Program} {ops:Array Oper} {Q:Exit ->Act ->World ->Prop} {i f:Nat} {args:Array Value} {rest:List Nat} {o:Oper} {a:Act} {w:World} (ho:ops[i]? =some o) (hg:o.guard=none)
 (hr:(o.semAt (FR ro).round a.eval).run P w= .ok (.enter f args) w) (h:Calls P f args w λe w'=>∃ v,e= .returned v/\wpOpsIn (FR ro) n P ops Q rest (a.put o.dst v) w'):wpOpsIn (FR ro) n P ops Q (i::rest) a w:=by
 simp only[wpOpsIn,ho]
 rw[x9 (by simp[Region.wanted,hg])]
 refine⟨λ_ _=>trivial, ?_⟩
 rw[hr]
 refine⟨λhe=>by simp[FR,Fence.wide]at he,zis (h.mono ?_)⟩
 rintro e w' ⟨v,rfl,hv⟩
 exact hv
theorem UQ {d:Nat} {v:Value} (h:d<a.tmps.size):(a.put (some d) v).eval (.tmp d)=v:=by
 show(a.put (some d) v).tmps.getD d undef=v
 rw[xb,z9g h];rfl
theorem zfe {d s:Nat} {v:Value} (h:d≠s):(a.put (some d) v).eval (.tmp s)=a.eval (.tmp s):=by
 show(a.put (some d) v).tmps.getD s undef=a.tmps.getD s undef
 rw[xb,mR (λe=>h (by cases e;rfl)),xb]
theorem pq {d:Option Nat} {v:Value}:(a.put d v).tmps.size=a.tmps.size:=by cases d<;>simp[Act.put]
theorem Wr {o:Oper} {a:Act} {w:World} {x:Operand} (ho:o.op= .move x∨o.op= .assign x):(o.semAt (FR ro).round a.eval).run P w= .ok (.value (a.eval x)) w:=by
 rw[Oper.semAt_eq _ _ _ (λc=>by rcases ho with h |h<;>rw[h]<;>simp)]
 unfold execOp
 rcases ho with h |h<;>rw[h]<;>simp
theorem zcs {o:Oper} {a:Act} {w:World} {f:Nat} {x:Operand} {ts:Array TypeId} (ho:o.op= .call {callee:= .value (.func f),args:=#[x],argTypes:=ts}) (hf:jH P f):(o.semAt (FR ro).round a.eval).run P w= .ok (.enter f #[a.eval x]) w:=by
 rw[Oper.semAt_eq _ _ _ (λc=>by rw[ho];simp)]
 have e:a.eval (.func f)= .func (.func f) #[] #[]:=rfl
 simp only[execOp,ho,resolve,Sem.run_bind,e]
 simp only[Deferred.ofValue,Sem.run_pure,Result.andThen_ok,invoke,Array.empty_append]
 have :=hf #[a.eval x] w
 simpa using this
noncomputable def kO (k:Nat):Code:=Bu Tryz.f231 k
noncomputable def fR (k:Nat):Array Oper:=(HU (kO k)).toArray
theorem sR0:kO 0= .region 0 (fR 0) false:=by kernel_rfl
theorem sR1:kO 1= .region 1 (fR 1) false:=by kernel_rfl
theorem sR2:kO 2= .region 2 (fR 2) false:=by kernel_rfl
theorem sR3:kO 3= .region 3 (fR 3) false:=by kernel_rfl
theorem s00:((fR 0)[0]?).map nm=some (some 2, .assign (.const (.slice none 0 0)),none):=by kernel_rfl
theorem s10:((fR 1)[0]?).map nm=some (some 4, .move (.tmp 0),none):=by kernel_rfl
theorem s11:((fR 1)[1]?).map nm=some (some 5, .call {callee:= .value (.func 186),args:=#[.tmp 4],argTypes:=#[29]},none):=by kernel_rfl
theorem s12:((fR 1)[2]?).map nm=some (some 3, .assign (.tmp 5),none):=by kernel_rfl
theorem s20:((fR 2)[0]?).map nm=some (some 6, .move (.tmp 3),none):=by kernel_rfl
theorem s21:((fR 2)[1]?).map nm=some (some 7, .call {callee:= .value (.func 250),args:=#[.tmp 6],argTypes:=#[29]},none):=by kernel_rfl
theorem s30:((fR 3)[0]?).map nm=some (some 8, .move (.tmp 3),none):=by kernel_rfl
theorem s31:((fR 3)[1]?).map nm=some (some 9, .call {callee:= .value (.func 251),args:=#[.tmp 8],argTypes:=#[29]},none):=by kernel_rfl
theorem s32:((fR 3)[2]?).map nm=some (some 2, .assign (.tmp 9),none):=by kernel_rfl
theorem agz:Tryz.f231.body=some ((kO 0).seq ((kO 1).seq ((kO 2).seq ((kO 3).seq .ret)))):=by kernel_rfl
theorem sS0:(fR 0).size=1:=by kernel_rfl
theorem sS1:(fR 1).size=3:=by kernel_rfl
theorem sS2:(fR 2).size=2:=by kernel_rfl
theorem sS3:(fR 3).size=3:=by kernel_rfl
theorem zoz (v:Value) (w:World) (R:Ending ->World ->Prop)
 (h1:Calls Tryz.prog 186 #[v] w λe w1=>∃ v1,e= .returned v1/\Calls Tryz.prog 250 #[v1] w1 λe w2=>(∃ u,e= .returned u)/\Calls Tryz.prog 251 #[v1] w2 λe w3=>∃ v3,e= .returned v3/\R (.returned v3) w3):
 Calls Tryz.prog 231 #[v] w R:=by
 refine(callsIn_wide (n:=9)).1 (callsIn_of_wp Tryz.func231 agz trivial ?_)
 have hres:Tryz.f231.results=#[.tmp 2]:=by kernel_rfl
 have hnt:Tryz.f231.ntmps=10:=by kernel_rfl
 have ok1:jH Tryz.prog 186:=jH.of Tryz.func186 (by kernel_rfl) (by kernel_rfl)
 have ok2:jH Tryz.prog 250:=jH.of Tryz.func250 (by kernel_rfl) (by kernel_rfl)
 have ok3:jH Tryz.prog 251:=jH.of Tryz.func251 (by kernel_rfl) (by kernel_rfl)
 rw[hnt]
 obtain⟨a,ha⟩:∃ a:Act,a={tmps:=#[v]++Array.replicate (10 - (#[v]:Array Value).size) undef,defers:=[]}:=⟨_,rfl⟩
 rw[<- ha]
 have hsz:a.tmps.size=10:=by rw[ha];simp
 have hd:a.defers=[]:=by rw[ha]
 have hv:a.eval (.tmp 0)=v:=by rw[ha];simp[Act.eval]
 clear ha
 show Code.wpIn (FR none) 9 _ _ _ _ _
 rw[sR0,sR1,sR2,sR3]
 obtain⟨o,q1,q2,q3,q4⟩:=jF s00
 refine wpIn_seq (wpIn_region ?_)
 rw[sS0,show List.range 1=[0]from rfl]
 refine xR q1 q4 (λ_ _=>trivial) (Wr (.inr q3)) ?_
 rw[q2]
 generalize hw2:a.eval (.const (.slice none 0 0))=z
 have hsz0:=hsz
 obtain⟨b,hb⟩:∃ b,b=a.put (some 2) z:=⟨_,rfl⟩
 rw[<- hb]
 have hv0:b.eval (.tmp 0)=v:=by rw[hb,zfe (by decide),hv]
 have hsz:b.tmps.size=10:=by rw[hb,pq,hsz]
 have hd:b.defers=[]:=by rw[hb];exact hd
 clear hb hw2 hv hsz0
 show Code.wpIn (FR none) 9 _ _ _ b w
 refine wpIn_seq (wpIn_region ?_)
 rw[sS1,show List.range 3=[0,1,2]from rfl]
 obtain⟨o,q1,q2,q3,q4⟩:=jF s10
 refine xR q1 q4 (λ_ _=>trivial) (Wr (.inl q3)) ?_
 rw[q2,hv0]
 obtain⟨o,q1,q2,q3,q4⟩:=jF s11
 refine za4 q1 q4 (zcs q3 ok1) ?_
 rw[UQ (by omega)]
 refine h1.mono ?_
 rintro e w1 ⟨v1,rfl,h2⟩
 refine⟨v1,rfl, ?_⟩
 rw[q2]
 obtain⟨o,q1,q2,q3,q4⟩:=jF s12
 refine xR q1 q4 (λ_ _=>trivial) (Wr (.inr q3)) ?_
 rw[q2,UQ (by rw[pq];omega)]
 obtain⟨c,hc⟩:∃ c,c=((b.put (some 4) v).put (some 5) v1).put (some 3) v1:=⟨_,rfl⟩
 rw[<- hc]
 have hv0:c.eval (.tmp 3)=v1:=by rw[hc,UQ (by rw[pq,pq];omega)]
 have hsz:c.tmps.size=10:=by rw[hc,pq,pq,pq,hsz]
 have hd:c.defers=[]:=by rw[hc];exact hd
 clear hc
 show Code.wpIn (FR none) 9 _ _ _ c w1
 refine wpIn_seq (wpIn_region ?_)
 rw[sS2,show List.range 2=[0,1]from rfl]
 obtain⟨o,q1,q2,q3,q4⟩:=jF s20
 refine xR q1 q4 (λ_ _=>trivial) (Wr (.inl q3)) ?_
 rw[q2,hv0]
 obtain⟨o,q1,q2,q3,q4⟩:=jF s21
 refine za4 q1 q4 (zcs q3 ok2) ?_
 rw[UQ (by omega)]
 refine h2.mono ?_
 rintro e w2 ⟨⟨u,rfl⟩,h3⟩
 refine⟨u,rfl, ?_⟩
 rw[q2]
 obtain⟨d,hdd⟩:∃ d,d=(c.put (some 6) v1).put (some 7) u:=⟨_,rfl⟩
 rw[<- hdd]
 have hv0:d.eval (.tmp 3)=v1:=by rw[hdd,zfe (by decide),zfe (by decide),hv0]
 have hsz:d.tmps.size=10:=by rw[hdd,pq,pq,hsz]
 have hd:d.defers=[]:=by rw[hdd];exact hd
 clear hdd
 show Code.wpIn (FR none) 9 _ _ _ d w2
 refine wpIn_seq (wpIn_region ?_)
 rw[sS3,show List.range 3=[0,1,2]from rfl]
 obtain⟨o,q1,q2,q3,q4⟩:=jF s30
 refine xR q1 q4 (λ_ _=>trivial) (Wr (.inl q3)) ?_
 rw[q2,hv0]
 obtain⟨o,q1,q2,q3,q4⟩:=jF s31
 refine za4 q1 q4 (zcs q3 ok3) ?_
 rw[UQ (by omega)]
 refine h3.mono ?_
 rintro e w3 ⟨v3,rfl,h4⟩
 refine⟨v3,rfl, ?_⟩
 rw[q2]
 obtain⟨o,q1,q2,q3,q4⟩:=jF s32
 refine xR q1 q4 (λ_ _=>trivial) (Wr (.inr q3)) ?_
 rw[q2,UQ (by rw[pq];omega)]
 show Code.wpIn (FR none) 9 _ _ _ _ w3
 refine wpIn_ret ⟨hd,v3, ?_,h4⟩
 simp[results,hres]
 rw[z9g (by rw[pq,pq];omega)]
 rfl
theorem zh8:(dp l).Perm l:=List.mergeSort_perm _ _
theorem zix {l:List Int} {x:Int} (h:x∈bx l):x∈l:=by
 unfold bx pY Lib.compact Lib.compactUpTo at h
 obtain⟨j,hj,rfl⟩:=wv.1 h
 have hj':j<(dp l).length:=by simpa using(yh.1 hj).1
 have e:((dp l).toArray)[j]! =(dp l)[j]:=by simp[hj']
 rw[e]
 exact(zh8 l).mem_iff.1 (wm hj')
theorem rf:(bx l).length<=l.length:=by
 unfold bx pY Lib.compact Lib.compactUpTo
 rw[yx]
 refine yd (yo _ _) ?_
 rw[List.length_range,z9h];exact xm _
open Go.Sort in
theorem zp0 (hl:l.length<=1000000):KN 231 [a8 l] (a8 (bx l)):=by
 refine .inl ⟨jH.of Tryz.func231 (by kernel_rfl) (by kernel_rfl), ?_⟩
 intro w F vs hro hglob hsz hr
 obtain⟨v,rfl⟩:∃ v,vs=#[v]:=by
  match vs,hsz with
  | ⟨[c]⟩,_=>exact⟨c,rfl⟩
 refine zoz v w _ ?_
 have hc:=(zfd l hl).2 w F #[v] hro hglob hsz hr
 refine hc.mono ?_
 rintro e w1 ⟨v1,F1,φ1,rfl,hB1,hF1,hF1',hlt1,hrep1,hbox1,hinj1⟩
 refine⟨v1,rfl, ?_⟩
 have hb0:=hbox1 0 _ rfl
 have close:∀ (w3:World) (v3:Value),RowKit.Below w.heap.size w w3 ->(∃ F',(∀ k,F1 k ->F' k)/\(∀ k,F' k ->F k∨w.heap.size<=k)/\(∀ k,F' k ->k<w3.heap.size)/\au w3 F' v3 (a8 (bx l))) ->∃ v F',(Ending.returned v3:Ending)= .returned v/\RowKit.Below w.heap.size w w3/\(∀ k,F k ->F' k)/\(∀ k,F' k ->F k∨w.heap.size<=k)/\(∀ k,F' k ->k<w3.heap.size)/\dx w3 F' v (a8 (bx l)):=by
  rintro w3 v3 hB ⟨F',a1,a2,a3,a4⟩
  exact⟨v3,F',rfl,hB,λk hk=>a1 k (hF1 k hk),a2,a3,a4⟩
 rcases zt9 hb0 hrep1 with⟨rfl,rfl,hn⟩ | ⟨g,cs,hb,hB,hF,rfl,hg,hcs,hcap,hmax,hH,hR⟩
 . refine(Proofs.Tryz.slices_Sort_int_none none 0 w1).mono ?_
   rintro e w2 ⟨rfl,hw2⟩
   rw[hw2]
   refine⟨⟨_,rfl⟩,(Proofs.Tryz.slices_Compact_int_empty none 0 w1).mono ?_⟩
   rintro e w3 ⟨rfl,hw3⟩
   rw[hw3]
   exact⟨_,rfl,close _ _ hB1 ⟨F1,λ_ h=>h,hF1',hlt1,by
    have e:bx []=[]:=xz (Nat.le_zero.1 (rf []))
    rw[e]
    exact .cH none 0 .leaf _⟩⟩
 . have hwlt:w.heap.size<=g:=hB
   refine(Proofs.Tryz.slices_Sort_int g 0 (φ1 0).cap l w1 hH (xj.1 hg).1 (by omega)).mono ?_
   rintro e w2 ⟨rfl,n2,os2,hw2⟩
   refine⟨⟨_,rfl⟩, ?_⟩
   obtain⟨p1,p2,p3⟩:=zh7 (n:=n2) (os:=os2) (l':=dp l) hg (by omega) (z9h l)
   have hw2:w2=grow (putRow (Value.int .i64) (Sort.ahead w1 n2) g 0 (dp l).toArray) os2:=hw2
   have hB2:RowKit.Below w.heap.size w w2:=by
    refine hB1.trans ⟨by rw[hw2];rfl,by rw[hw2];rfl,by rw[hw2];rfl,by rw[hw2];exact zba,λk hk=>?_⟩
    have :=hB1.size
    rw[hw2];exact zh6 (by omega) (by omega)
   rw[<- hw2]at p1
   have hH2:=ztb p1 (by rw[p2,z9h];omega) p3
   have hl2:(dp l).length=l.length:=z9h l
   have hcmp:=Proofs.Tryz.slices_Compact_int g 0 (φ1 0).cap (dp l) w2 hH2 (by omega) (by omega)
   rw[hl2]at hcmp
   refine hcmp.mono ?_
   rintro e w3 ⟨rfl,n3,hw3⟩
   refine⟨_,rfl,close _ _ ?_ ?_⟩
   . refine hB2.trans ⟨by rw[hw3];rfl,by rw[hw3];rfl,by rw[hw3];rfl, ?_,λk hk=>?_⟩
     . have :=zba (w:=w2) (g:=g) (n:=n3) (d:=(Lib.compact (dp l)++List.replicate (l.length - (Lib.compact (dp l)).length) 0).toArray) (os:=#[])
       rw[grow_empty]at this;rw[hw3];exact this
     . have :=zh6 (n:=n3) (g:=g) (d:=(Lib.compact (dp l)++List.replicate (l.length - (Lib.compact (dp l)).length) 0).toArray) (os:=#[]) (show k<w2.heap.size by have :=hB2.size;omega) (by omega)
       rw[grow_empty]at this;rw[hw3];exact this
   . have hlen3:(Lib.compact (dp l)++List.replicate (l.length - (Lib.compact (dp l)).length) 0).length=(dp l).length:=by
      have :(Lib.compact (dp l)).length<=l.length:=rf l
      simp[hl2];omega
     obtain⟨r1,r2,r3⟩:=zh7 (n:=n3) (os:=#[]) (l':=Lib.compact (dp l)++List.replicate (l.length - (Lib.compact (dp l)).length) 0) p1 (by rw[p2];omega) hlen3
     rw[grow_empty]at r1
     have hw3':w3=putRow (Value.int .i64) (Sort.ahead w2 n3) g 0 (Lib.compact (dp l)++List.replicate (l.length - (Lib.compact (dp l)).length) 0).toArray:=hw3
     rw[<- hw3']at r1
     have hlt3:g<w3.heap.size:=(xj.1 r1).1
     have hs2:w1.heap.size<=w2.heap.size:=by rw[hw2];exact zba
     have hs3:w2.heap.size<=w3.heap.size:=by
      have :=zba (w:=w2) (g:=g) (n:=n3) (d:=(Lib.compact (dp l)++List.replicate (l.length - (Lib.compact (dp l)).length) 0).toArray) (os:=#[])
      rw[grow_empty]at this;rw[hw3];exact this
     refine⟨λk=>F1 k∨k=g,λk hk=> .inl hk,λk hk=>?_,λk hk=>?_, ?_⟩
     . rcases hk with hk |rfl
       . exact hF1' k hk
       . exact .inr hwlt
     . rcases hk with hk |rfl
       . have :=hlt1 k hk;omega
       . exact hlt3
     . refine .seq g 0 _ _ .leaf _ (λi _=> .int .i64 ((bx l).getD i 0)) (.inr rfl) (yd (rf l) hcap) (λi hi j hj=>?_) λi hi j hj=>?_
       . have :j=0:=by have :j<1:=hj;omega
         subst this
         have hi':i<(Lib.compact (dp l)).length:=hi
         have h5:=r3 i (by rw[hlen3,hl2];exact wj hi (rf l))
         have hsz5:i<(putCells (Value.int .i64) 0 (Lib.compact (dp l)++List.replicate (l.length - (Lib.compact (dp l)).length) 0).toArray (putCells (Value.int .i64) 0 (dp l).toArray cs)).size:=by
          rw[r2,p2];have :=rf l;have hi2:i<(bx l).length:=hi;omega
         rw[xb,y4 hsz5,yj]at h5
         simp only[World.cell?,r1,Shape.size,jf,wd,xw]
         rw[y4 hsz5,h5]
         have e:(Lib.compact (dp l)++List.replicate (l.length - (Lib.compact (dp l)).length) 0).getD i 0=(bx l).getD i 0:=by
          rw[x7,x7,ya hi'];rfl
         rw[e];rfl
       . exact .int _ _ (zta (λx hx=>ahu hR x (zix hx)) i hi)
end Go.Proofs.S25
namespace Go.Proofs.S25
open Go Go.AV
open Go.IntKind renaming i64 -> j6
open Go.AV.Shape (leaf)
noncomputable section
variable (l:List Int) (p:Int ->Bool) (m:List Int) (v:Int) (i:Nat) (j:Nat) (k:Nat)
def zp1:Option Inv:=match Nat.beq k 2 with
 |true=>iw l.length (λi=>⟨[(0,a8 l),(1, .int .i64 v),(7, .int .i64 l.length),(8, .int .i64 i)],[]⟩) λi=>gD l v l.length=gD l v (l.length - i)
 |false=>none
def zff:Option Inv:=match Nat.beq k 2 with
 |true=>some {ι:=Nat,S:=λi=>⟨[(0,a8 l),(3, .int .i64 i)],[]⟩,μ:=λi=>l.length - i,ok:=λi=>1<=i/\(i<=l.length∨i=1)/\∀ j,j+1<i ->l.getD j 0<l.getD (j+1) 0}
 |false=>none
def zp2 (w:Bool) (k:Nat):Option Inv:=match Nat.beq k 3 with
 |true=>iv ((bx l).length) λi=>⟨[(1,a8 m),(2, .bool w),(7, .own 25 (((bx l).take i).filter λx=>aQ m x==w).length),(11,a8 (bx l)),(12, .int .i64 (bx l).length),(13, .int .i64 i)],[(25,bw (((bx l).take i).filter λx=>aQ m x==w))]⟩
 |false=>none
def zfg:Option Inv:=match Nat.beq k 2 with
 |true=>iw l.length (λi=>⟨[(0,a8 l),(1, .int .i64 v),(5, .int .i64 i)],[]⟩) λi=>∀ j,j<i ->l.getD j 0≠v
 |false=>none
theorem zp4 (hi:i<l.length):gD l v (l.length - i)=if v=l.getD i 0 then(i:Int)else gD l v (l.length - (i+1)):=by
 obtain⟨k,hk⟩:∃ k,l.length - i=k+1:=⟨l.length - i - 1,by omega⟩
 rw[hk,gD,show l.length - (k+1)=i from by omega,show k=l.length - (i+1)from by omega]
theorem zkx (l:List Int) (v:Int):∀ k,k<=l.length ->(0<=gD l v k↔∃ i,l.length - k<=i/\i<l.length/\v=l.getD i 0)
 |0,_=>⟨λh=>absurd (show(0:Int)<= -1 from h) (by decide),λ⟨i,h1,h2,_⟩=>by omega⟩
 |k+1,hk=>by
  simp only[gD]
  split
  . rename_i h
    exact⟨λ_=>⟨l.length - (k+1),by omega,by omega,h⟩,λ_=>by omega⟩
  . rename_i h
    rw[zkx l v k (by omega)]
    refine⟨λ⟨i,h1,h2,h3⟩=>⟨i,by omega,h2,h3⟩,λ⟨i,h1,h2,h3⟩=>⟨i, ?_,h2,h3⟩⟩
    by_cases e:i=l.length - (k+1)
    . subst e;exact absurd h3 h
    . omega
theorem tY:aQ l v=true↔∃ i,i<l.length/\v=l.getD i 0:=by
 unfold aQ
 rw[List.contains_iff_mem]
 constructor
 . intro h
   obtain⟨i,hi,rfl⟩:=yq h
   exact⟨i,hi,by simp[x7,hi]⟩
 . rintro⟨i,hi,rfl⟩
   rw[x7,xe hi]
   exact wm hi
theorem Li:kU l=true↔∀ j,j+1<l.length ->l.getD j 0<l.getD (j+1) 0:=by
 unfold kU
 rw[yu]
 constructor
 . intro h j hj
   simpa using h j (yl.2 (by omega))
 . intro h j hj
   simpa using h j (by have :=yl.1 hj;omega)
section
variable (l:List Int) (v:Int) (x2:Nat)
def qmi:=x2<=l.length/\gD l v l.length=gD l v (l.length - x2)
def OP:=v==l.getD (↑x2:Int).toNat 0
variable (x1:Nat)
def qe:=decide ((↑x1:Int)<(↑l.length:Int))
end
theorem aio (hl:l.length<=1000000):KN 115 [a8 l, .int .i64 v] (.int .i64 (gD l v l.length)):=by
 refine Kn (sv 19 (zp1 l v)) Tryz.func115 (↑l.length<=(9223372036854775807:Int)/\(∃ i,qmi l v i/\LT (a8 l)/\RR v/\RR (↑l.length:Int)/\0=(↑i:Int))/\∀ i:Nat,qmi l v i->(qe l i=true->af (↑i) l.length/\(OP l v i=true->↑i=gD l v l.length)/\(OP l v i=false->aM j6 (q9 i)/\(∃ j,qmi l v j/\l.length - j<l.length - i/\LT (a8 l)/\RR v/\RR (↑l.length:Int)/\q9 i=(↑j:Int))))/\(qe l i=false->-1=gD l v l.length)) ?_
 try delta qmi OP q9 qe
 simp only[SZ]
 refine⟨by omega,⟨0,⟨by omega,by rw[yg]⟩,rfl⟩,λi hi=>⟨λhlt=>⟨hlt,λh=>?_,λh=>⟨za (by omega) (by omega),i+1,⟨by omega, ?_⟩,by omega,by omega⟩⟩,λhge=>?_⟩⟩
 . rw[hi.2,zp4 l v i hlt,x9 h]
 . rw[hi.2,zp4 l v i hlt,x8 h]
 . rw[hi.2,show l.length - i=0 from by omega];rfl
section
variable (l:List Int)
def Ta:List Int:=zw l.length λi=>AV.int j6 (l.getD i 0)
end
theorem Ny (hl:l.length<=1000000):KN 53 [a8 l, .int .i64 v] (.bool (aQ l v)):=by
 refine Kn (sv 9 λ_=>none) Tryz.func53 (KN 115 [a8 l,AV.int j6 v] (AV.int j6 (gD (Ta l) v (Ta l).length))/\decide (0<=gD (zw l.length λi=>AV.int j6 (l.getD i 0)) v (zw l.length λi=>AV.int j6 (l.getD i 0)).length)=aQ l v) ?_
 try delta Ta
 try simp only[SZ]
 simp only[oR]
 refine⟨aio l v hl, ?_⟩
 have h1:=zkx l v l.length (xm _)
 rw[yz]at h1
 rw[wk,xd,h1,tY]
 exact⟨λ⟨i,_,h,h'⟩=>⟨i,h,h'⟩,λ⟨i,h,h'⟩=>⟨i,by omega,h,h'⟩⟩
section
variable (l:List Int) (v:Int)
def Q1:=aQ (zw l.length λi=>AV.int j6 (l.getD i 0)) v
end
theorem zp5 (hl:l.length<=1000000):KN 244 [a8 l, .int .i64 v] (.bool (aQ l v)):=by
 refine Kn (sv 8 λ_=>none) Tryz.func244 (KN 53 [a8 l,AV.int j6 v] (AV.bool (Q1 l v))/\Q1 l v=aQ l v) ?_
 try delta Q1
 try simp only[SZ]
 simp only[oR]
 exact⟨Ny l v hl,trivial⟩
section
variable (l:List Int) (x1:Nat)
def wS:=1<=x1/\(x1<=l.length∨x1=1)/\∀ j:Nat,qd j<x1->l.getD j 0<l.getD (qd j) 0
variable (x0:Nat)
def qg:Int:=↑x0 - 1
def Uy:=decide (l.getD (↑x1:Int).toNat 0<=l.getD ((↑x1:Int) - 1).toNat 0)
end
theorem YH (hl:l.length<=1000000):KN 224 [a8 l] (.bool (kU l)):=by
 refine Kn (sv 20 (zff l)) Tryz.func224 ((∃ i,wS l i/\LT (a8 l)/\(1:Int)=↑i)/\∀ i:Nat,wS l i->↑l.length<=(9223372036854775807:Int)/\(qe l i=true->aM j6 (qg i)/\af (qg i) l.length/\af (↑i) l.length/\(Uy l i=true->false=kU l)/\(Uy l i=false->aM j6 (q9 i)/\(∃ j,wS l j/\l.length - j<l.length - i/\LT (a8 l)/\q9 i=↑j)))/\(qe l i=false->true=kU l)) ?_
 try delta qd wS qg Uy q9 qe
 simp only[SZ]
 refine⟨⟨1,⟨by omega, .inr rfl,λj hj=>by omega⟩,rfl⟩,λi hi=>⟨by omega,λhlt=>?_,λhge=>?_⟩⟩
 . have e:((i:Int) - 1).toNat=i - 1:=by omega
   rw[e]
   refine⟨za (by omega) (by omega),by omega,hlt,λh=>?_,λh=>⟨za (by omega) (by omega),i+1,⟨by omega, .inl (by omega),λj hj=>?_⟩,by omega,by omega⟩⟩
   . cases hv:kU l with
     |false=>rfl
     |true=>
      have :=(Li l).1 hv (i - 1) (by omega)
      rw[show i - 1+1=i from by omega]at this
      omega
   . by_cases e2:j+1=i
     . have e3:i - 1=j:=by omega
       rw[e3]at h
       rw[e2];omega
     . exact hi.2.2 j (by omega)
 . exact((Li l).2 λj hj=>hi.2.2 j (by omega)).symm
theorem akf (hl:l.length<=1000000):KN 208 [a8 l] (.bool (kU l)):=by
 refine Kn (sv 20 (zff l)) Tryz.func208 ((∃ i,wS l i/\LT (a8 l)/\(1:Int)=↑i)/\∀ i:Nat,wS l i->↑l.length<=(9223372036854775807:Int)/\(qe l i=true->aM j6 (qg i)/\af (qg i) l.length/\af (↑i) l.length/\(Uy l i=true->false=kU l)/\(Uy l i=false->aM j6 (q9 i)/\(∃ j,wS l j/\l.length - j<l.length - i/\LT (a8 l)/\q9 i=↑j)))/\(qe l i=false->true=kU l)) ?_
 try delta qd wS qg Uy q9 qe
 simp only[SZ]
 refine⟨⟨1,⟨by omega, .inr rfl,λj hj=>by omega⟩,rfl⟩,λi hi=>⟨by omega,λhlt=>?_,λhge=>?_⟩⟩
 . have e:((i:Int) - 1).toNat=i - 1:=by omega
   rw[e]
   refine⟨za (by omega) (by omega),by omega,hlt,λh=>?_,λh=>⟨za (by omega) (by omega),i+1,⟨by omega, .inl (by omega),λj hj=>?_⟩,by omega,by omega⟩⟩
   . cases hv:kU l with
     |false=>rfl
     |true=>
      have :=(Li l).1 hv (i - 1) (by omega)
      rw[show i - 1+1=i from by omega]at this
      omega
   . by_cases e2:j+1=i
     . have e3:i - 1=j:=by omega
       rw[e3]at h
       rw[e2];omega
     . exact hi.2.2 j (by omega)
 . exact((Li l).2 λj hj=>hi.2.2 j (by omega)).symm
theorem kI (L:List Int) (x:Int) (j:Nat) (hj:j<L.length+1):(if j<L.length then AV.int .i64 (L.getD j 0)else((List.replicate 1 (AV.int .i64 0)).set 0 (AV.int .i64 x)).getD (j - L.length) AV.any)=AV.int .i64 ((L++[x]).getD j 0):=by
 split
 . rename_i h
   rw[x7,x7,ya h]
 . rename_i h
   obtain rfl:j=L.length:=by omega
   simp[x7]
theorem z3m (S:List Int) (p:Int ->Bool) (i:Nat) (hi:i<S.length):(S.take (i+1)).filter p=(S.take i).filter p++(if p (S.getD i 0)then [S.getD i 0]else []):=by
 have e:S.take (i+1)=S.take i++[S.getD i 0]:=by
  rw[wz,x7,xe hi];rfl
 rw[e,List.filter_append]
 congr 1
 by_cases h:p (S.getD i 0)=true
 . rw[x9 h,List.filter_cons_of_pos h,List.filter_nil]
 . rw[x8 h,List.filter_cons_of_neg h,List.filter_nil]
theorem zh9 (L:List Int) (x:Int):zw (L.length+1) (λj=>if j<L.length then AV.int .i64 (L.getD j 0)else((List.replicate 1 (AV.int .i64 0)).set 0 (AV.int .i64 x)).getD (j - L.length) AV.any)=L++[x]:=by
 have h:=oR (L++[x])
 rw[xl]at h
 refine Eq.trans ?_ h
 show(List.range (L.length+1)).map _=(List.range (L.length+1)).map _
 apply List.map_congr_left
 intro j hj
 exact yt dI (kI L x j (yl.1 hj))
theorem zha (x:Int):zw 1 (λj=>((List.replicate 1 (AV.int .i64 0)).set 0 (AV.int .i64 x)).getD j AV.any)=[x]:=rfl
section
variable (l:List Int)
def D1:List Int:=bx (zw l.length λi=>AV.int j6 (l.getD i 0))
def Ig:=a8 (D1 l)
def B3:Int:=↑(D1 l).length
variable (m:List Int) (w:Bool) (x3:Nat)
def qmj:List Int:=List.filter (λx=>aQ m x==w) (List.take x3 (bx l))
def pF:Nat:=(qmj l m w x3).length
def Qy:=pF l m w x3=0
variable (x1:Nat)
def B8:Int:=(bx l).getD (↑x1:Int).toNat 0
def Ge:=AV.int j6 (B8 l x1)
variable (x2:Nat)
def LL:=aQ (zw m.length λi=>AV.int j6 (m.getD i 0)) (B8 l x2)
def qgc:Nat:=pF l m w x3+1
def Hv:=(bx l).length - x2<(bx l).length - x1
variable (x4:Nat)
def Mv:=qgc l m w x3=pF l m w x4
def Gb:=LT (a8 (bx l))/\RR (↑(bx l).length:Int)/\q9 x1=↑x2
def qgd:=AV.int j6 ((qmj l m w x3).getD x4 0)
def MH:=LL l m x3==w
def K4:=pF l m w x3=pF l m w x4
def Ee:=decide ((↑x1:Int)<(↑(bx l).length:Int))
end
theorem af4 (w:Bool) (hl:l.length<=1000000) (hm:m.length<=1000000):KN 232 [a8 l,a8 m, .bool w] (a8 (tU l m w)):=by
 refine Kn (sv 28 (zp2 l m w)) Tryz.func232 (KN 231 [a8 l] (Ig l)/\B3 l<=9223372036854775807/\(∃ i,i<=(bx l).length/\(LT (a8 m)/\RR w/\Qy l m w i/\LS (Ig l) (a8 (bx l))/\B3 l=↑(bx l).length/\(0:Int)=↑i)/\Qy l m w i)/\∀ i:Nat,i<=(bx l).length->(Ee l i=true->af (↑i) (bx l).length/\KN 53 [a8 m,Ge l i] (AV.bool (LL l m i))/\(MH l m w i=true->1*leaf.size<=16777216/\(RR (pF l m w i)/\↑(qgc l m w i)*↑(8:Nat)<=(140737488355328:Int)/\qgc l m w i<=9223372036854775807)/\1<=1/\qa i/\(∃ j,j<=(bx l).length/\Hv l i j/\(LT (a8 m)/\RR w/\Mv l m w i j/\Gb l i j)/\Mv l m w i j/\∀ (i_1:Nat),i_1<qgc l m w i->(if i_1<(List.filter (λx=>aQ m x==w) (List.take i (bx l))).length then qgd l m w i i_1 else((List.replicate 1 (AV.int j6 0)).set 0 (aq (aq (Ge l i)))).getD (i_1 - pF l m w i) AV.any)=qgd l m w j i_1))/\(MH l m w i=false->qa i/\(∃ j,j<=(bx l).length/\Hv l i j/\(LT (a8 m)/\RR w/\K4 l m w i j/\Gb l i j)/\K4 l m w i j/\∀ (i_1:Nat),i_1<pF l m w i->qgd l m w i i_1=qgd l m w j i_1)))/\(Ee l i=false->pF l m w i<=pF l m w i/\LS (a8 (qmj l m w i)) (a8 (tU l m w)))) ?_
 try delta D1 Ig B3 qmj pF Qy B8 Ge LL qgc q9 qa Hv Mv Gb qgd MH K4 Ee
 simp only[SZ]
 simp only[oR]
 have hS:=rf l
 have hP:∀ i,((bx l).take i |>.filter λx=>aQ m x==w).length<=(bx l).length:=λi=>yd (yo _ _) (by rw[xr];omega)
 refine⟨zp0 l hl,by omega,⟨0,by omega,⟨by simp,⟨trivial,λ_ _=>trivial⟩,trivial,rfl⟩,by simp⟩,λi hi=>⟨λhlt=>⟨hlt,Ny m _ hm,λh=>?_,λh=>?_⟩,λhge=>?_⟩⟩
 . have e:=z3m (bx l) (λx=>aQ m x==w) i hlt
   rw[x9 (by simpa using h)]at e
   have hp:=hP i
   refine⟨by decide,⟨by omega,by omega⟩,za (by omega) (by omega),i+1,hlt,by omega,⟨by rw[e];simp,by omega⟩,by rw[e];simp,λj hj=>?_⟩
   rw[e,kI _ _ j hj]
 . have e:=z3m (bx l) (λx=>aQ m x==w) i hlt
   rw[x8 (by simpa using h),yb]at e
   exact⟨za (by omega) (by omega),i+1,hlt,by omega,⟨by rw[e],by omega⟩,by rw[e],λj hj=>by rw[e]⟩
 . have e:(bx l).take i=bx l:=xu (by omega)
   rw[e]
   exact⟨rfl,λ_ _=>rfl⟩
section
variable (l:List Int)
def Qz:Nat:=(Ta l).length
variable (x1:Nat)
def yZ:=AV.int j6 ((Ta l).getD x1 0)
def CK:Nat:=l.length+1
variable (v:Int)
def L7:Nat->AV:=λi=>if i<l.length then yZ l i else((List.replicate 1 (AV.int j6 0)).set 0 (aq (aq (AV.int j6 v)))).getD (i - l.length) AV.any
def I6:=a8 (bx (zw (CK l) (L7 l v)))
end
theorem qN (hl:l.length<=500000):KN 193 [a8 l, .int .i64 v] (a8 (c9 l v)):=by
 refine Kn (sv 11 λ_=>none) Tryz.func193 ((KF (186:Nat) [a8 l] (AV.own (0:Nat) l.length) [ar.row (3:TypeId) leaf (Qz l) λi=>yZ l i])/\1*leaf.size<=16777216/\(l.length=Qz l/\↑(CK l)*↑(8:Nat)<=(140737488355328:Int)/\CK l<=9223372036854775807)/\1<=1/\CK l<=CK l/\KN 231 [AV.seq leaf (CK l) (L7 l v)] (I6 l v)/\LS (I6 l v) (a8 (c9 l v))) ?_
 try delta Ta Qz yZ CK L7 I6
 simp only[SZ]
 simp only[oR,zh9]
 have hk:=zp0 (l++[v]) (by simp;omega)
 refine⟨zfd l (by omega),by decide,⟨trivial,by omega,by omega⟩, ?_,rfl,λ_ _=>rfl⟩
 exact hk.weaken (args':=[_]) rfl ⟨⟨rfl,by simp,λj hj=>kI l v j hj⟩,trivial⟩
section
variable (v:Int)
def T2:Nat->AV:=λi=>((List.replicate 1 (AV.int j6 0)).set 0 (aq (aq (AV.int j6 v)))).getD i AV.any
end
section
variable (l:List Int) (v:Int)
def Rq:=a8 (tU (zw l.length λi=>AV.int j6 (l.getD i 0)) (zw 1 (T2 v)) false)
end
theorem Lw (hl:l.length<=1000000):KN 194 [a8 l, .int .i64 v] (a8 (cU l v)):=by
 refine Kn (sv 9 λ_=>none) Tryz.func194 (1*leaf.size<=16777216/\1<=1/\KN 232 [a8 l,AV.seq leaf (1:Nat) (T2 v),AV.bool false] (Rq l v)/\LS (Rq l v) (a8 (cU l v))) ?_
 try delta T2 Rq
 simp only[SZ]
 simp only[oR,zha]
 have hk:=af4 l [v] false hl (by simp)
 refine⟨by decide, ?_,rfl,λ_ _=>rfl⟩
 refine hk.weaken (args':=[_,_,_]) rfl ⟨⟨rfl,rfl,λ_ _=>rfl⟩,⟨rfl,rfl,λj hj=>?_⟩,rfl,trivial⟩
 have :j=0:=by have :j<1:=hj;omega
 subst this;rfl
section
variable (l:List Int) (v:Int) (x2:Nat)
def xO:=x2<=l.length/\∀ j:Nat,j<x2->l.getD j 0≠v
def sP:=l.getD (↑x2:Int).toNat 0==v
end
theorem Ts (hl:l.length<=1000000):KN 70 [a8 l, .int .i64 v] (.bool (aQ l v)):=by
 refine Kn (sv 18 (zfg l v)) Tryz.func70 ((∃ i,xO l v i/\LT (a8 l)/\RR v/\(0:Int)=↑i)/\∀ i:Nat,xO l v i->↑l.length<=(9223372036854775807:Int)/\(qe l i=true->af (↑i) l.length/\(sP l v i=true->true=aQ l v)/\(sP l v i=false->aM j6 (q9 i)/\(∃ j,xO l v j/\l.length - j<l.length - i/\LT (a8 l)/\RR v/\q9 i=↑j)))/\(qe l i=false->false=aQ l v)) ?_
 try delta xO sP q9 qe
 simp only[SZ]
 refine⟨⟨0,⟨by omega,λj hj=>by omega⟩,rfl⟩,λi hi=>⟨by omega,λhlt=>⟨hlt,λh=>?_,λh=>⟨za (by omega) (by omega),i+1,⟨by omega,λj hj=>?_⟩,by omega,by omega⟩⟩,λhge=>?_⟩⟩
 . exact((tY l v).2 ⟨i,hlt,h.symm⟩).symm
 . by_cases e:j=i
   . subst e;exact h
   . exact hi.2 j (by omega)
 . symm
   rw[Bool.eq_false_iff]
   intro h
   obtain⟨j,hj,e⟩:=(tY l v).1 h
   exact hi.2 j (by omega) e.symm
def fD:List Int:=l.takeWhile (λx=>decide (x<v))++([v]++l.dropWhile λx=>decide (x<v))
def Zh (o:List Int) (x:Int):List Int:=if aQ o x then o else fD o x
def dO:List Int:=l.foldl Zh []
def kQ:List Int:=l.filter λx=>!aQ m x
def spR:FuncId ->List AV ->Option AV
 |151,[.seq _ n f, .int _ v]=>some (a8 (fD (zw n f) v))
 |82,[.seq _ n f]=>some (a8 (dO (zw n f)))
 |214,[.seq _ n f, .seq _ m g]=>some (a8 (dO (kQ (zw n f) (zw m g))))
 |159,[.seq _ n f, .int _ v]=>some (a8 (dO (kQ (zw n f) [v])))
 |215,[.seq _ n f, .seq _ m g]=>some (a8 (dO (zw n f++zw m g)))
 |f,l=>spS f l
noncomputable def vR2 (n:Nat) (inv:Nat ->Option Inv):bm:={C:=jE n,CC:=bO Tryz.prog GG,b9:=λ_ _=>spR,inv:=inv}
def zvy:Option Inv:=match Nat.beq k 2 with
 |true=>iw l.length (λi=>⟨[(0,a8 l),(1, .int .i64 v),(5, .int .i64 i)],[]⟩) λi=>∀ j,j<i ->l.getD j 0<v
 |false=>none
def alb:Option Inv:=match Nat.beq k 3 with
 |true=>some {ι:=Nat,S:=λi=>⟨[(0,a8 l),(3,a8 (dO (l.take i))),(4, .int .i64 i)],[]⟩,μ:=λi=>l.length - i,ok:=λi=>1<=i/\i<=l.length}
 |false=>none
def zvz:Option Inv:=match Nat.beq k 3 with
 |true=>iv l.length λi=>⟨[(0,a8 l),(1,a8 m),(5, .own 7 ((l.take i).filter λx=>!aQ m x).length),(6, .int .i64 i)],[(7,bw ((l.take i).filter λx=>!aQ m x))]⟩
 |false=>none
theorem ziy (hi:i<l.length):dO (l.take (i+1))=Zh (dO (l.take i)) (l.getD i 0):=by
 have e:l.take (i+1)=l.take i++[l.getD i 0]:=by
  rw[wz,x7,xe hi];rfl
 rw[e]
 unfold dO
 rw[List.foldl_append]
 rfl
theorem zw0 {l:List Int} {i:Nat} (hi:i<l.length) (h:aQ (dO (l.take i)) (l.getD i 0)=true):dO (l.take (i+1))=dO (l.take i):=by
 rw[ziy l i hi];unfold Zh;rw[x9 h]
theorem yS {l:List Int} {i:Nat} (hi:i<l.length) (h:aQ (dO (l.take i)) (l.getD i 0)=false):dO (l.take (i+1))=fD (dO (l.take i)) (l.getD i 0):=by
 rw[ziy l i hi];unfold Zh;rw[x8 (by rw[h];simp)]
theorem ahk:(l.takeWhile p).length+(l.dropWhile p).length=l.length:=by
 rw[<- xl,List.takeWhile_append_dropWhile]
theorem zp6:(fD l v).length=l.length+1:=by
 unfold fD
 have :=ahk l (λx=>decide (x<v))
 simp only[xl,List.length_singleton]
 omega
theorem zp7 (l:List Int):∀ i,i<=l.length ->(dO (l.take i)).length<=i
 |0,_=>by simp[dO]
 |i+1,h=>by
  have ih:=zp7 l i (by omega)
  rw[ziy l i (by omega)]
  unfold Zh
  split
  . omega
  . rw[zp6];omega
theorem aki:∀ i,i<=l.length ->(∀ j,j<i ->p (l.getD j 0)=true) ->(i=l.length∨p (l.getD i 0)=false) ->l.takeWhile p=l.take i/\l.dropWhile p=l.drop i:=by
 induction l with
 |nil=>intro i hi _ _;simp at hi;subst hi;exact⟨rfl,rfl⟩
 |cons x l ih=>
  intro i hi h1 h2
  cases i with
  |zero=>
   rcases h2 with h2 |h2
   . simp at h2
   . have :p x=false:=h2
     simp[List.takeWhile,List.dropWhile,this]
  |succ i=>
   have hx:p x=true:=h1 0 (by omega)
   have :=ih i (by simpa using hi) (λj hj=>h1 (j+1) (by omega)) (h2.imp (by simp) id)
   simp[List.takeWhile,List.dropWhile,hx,this.1,this.2]
theorem abz (hi:i<=l.length):(if j<i+1 then if j<i then if j<0 then(List.replicate 0 (AV.int .i64 0)).getD j AV.any else AV.int .i64 (l.getD (j - 0) 0)else((List.replicate 1 (AV.int .i64 0)).set 0 (AV.int .i64 v)).getD (j - i) AV.any else AV.int .i64 (l.getD (i+(j - (i+1))) 0))=AV.int .i64 ((l.take i++([v]++l.drop i)).getD j 0):=by
 have hlen:(l.take i).length=i:=by rw[xr];omega
 by_cases h1:j<i
 . rw[x9 (by omega),x9 h1,x8 (by omega),yg,x7,x7,ya (by omega),y5 h1]
 . by_cases h2:j=i
   . subst h2
     rw[x9 (by omega),x8 h1,yz,x7 (l:=_++_),y6 (by omega),hlen,yz]
     rfl
   . rw[x8 (by omega),x7 (l:=_++_),y6 (by omega),hlen,y6 (by simp;omega),ww,x7]
     congr 4
section
variable (l:List Int) (v:Int) (x2:Nat)
def qml:=x2<=l.length/\∀ j:Nat,j<x2->l.getD j 0<v
variable (x1:Nat)
def yF:=qe l x1=true
def sx:=yF l x1->yF l x1
def Db:=qe l x2&&decide (l.getD (↑x2:Int).toNat 0<v)
def MX:=(↑x1:Int)<=(↑l.length:Int)
variable (x0:Nat)
def Tt:Nat:=(0:Nat)+(↑x0 - (0:Int)).toNat
def WA:Nat:=Tt x0+1
def RS:Nat:=WA x1+((↑l.length:Int) - (↑x1:Int)).toNat
end
theorem aac (hl:l.length<=1000000):KN 151 [a8 l, .int .i64 v] (a8 (fD l v)):=by
 refine Kn (vR2 36 (zvy l v)) Tryz.func151 ((∃ i,qml l v i/\LT (a8 l)/\RR v/\(0:Int)=↑i)/\∀ i:Nat,qml l v i->↑l.length<=(9223372036854775807:Int)/\sx l i/\sx l i/\(yF l i->af (↑i) l.length)/\sx l i/\sx l i/\sx l i/\sx l i/\(Db l v i=true->aM j6 (q9 i)/\(∃ j,qml l v j/\l.length - j<l.length - i/\LT (a8 l)/\RR v/\q9 i=↑j))/\(Db l v i=false->0*leaf.size<=16777216/\((0:Int)<=(0:Int)/\(0:Int)<=↑i/\MX l i)/\(RR 0/\↑(Tt i)*↑(8:Nat)<=(140737488355328:Int)/\Tt i<=9223372036854775807)/\1*leaf.size<=16777216/\(RR (Tt i)/\↑(WA i)*↑(8:Nat)<=(140737488355328:Int)/\WA i<=9223372036854775807)/\1<=1/\((0:Int)<=↑i/\MX l i/\(↑l.length:Int)<=(↑l.length:Int))/\(RR (WA i)/\↑(RS l i)*↑(8:Nat)<=(140737488355328:Int)/\RS l i<=9223372036854775807)/\RS l i<=RS l i/\RS l i=(fD l v).length/\∀ (i_1:Nat),i_1<RS l i->(if i_1<0+((↑i:Int) - 0).toNat+1 then if i_1<0+((↑i:Int) - 0).toNat then if i_1<0 then(List.replicate 0 (AV.int j6 0)).getD i_1 AV.any else AV.int j6 (l.getD (Int.toNat 0+(i_1 - 0)) 0)else((List.replicate 1 (AV.int j6 0)).set 0 (aq (aq (AV.int j6 v)))).getD (i_1 - Tt i) AV.any else AV.int j6 (l.getD ((↑i:Int).toNat+(i_1 - WA i)) 0))=AV.int j6 ((fD l v).getD i_1 0))) ?_
 try delta qml qe yF sx q9 Db MX Tt WA RS
 simp only[SZ]
 refine⟨⟨0,⟨by omega,λj hj=>by omega⟩,rfl⟩,λi hi=>⟨by omega,λhlt=>⟨za (by omega) (by omega),i+1,⟨by omega,λj hj=>?_⟩,by omega,by omega⟩,λhge=>?_⟩⟩
 . by_cases e:j=i
   . subst e;exact hlt.2
   . exact hi.2 j (by omega)
 . obtain⟨e1,e2⟩:=aki l (λx=>decide (x<v)) i hi.1 (λj hj=>by simpa using hi.2 j hj) (by
    rcases hge with h |h
    . exact .inl (by omega)
    . exact .inr (by simpa using h))
   have e:fD l v=l.take i++([v]++l.drop i):=by unfold fD;rw[e1,e2]
   have hlen:=zp6 l v
   refine⟨by decide,⟨by omega,hi.1⟩,⟨by omega,by omega⟩,by decide,⟨by omega,by omega⟩,hi.1,⟨by omega,by omega⟩,by omega,λj hj=>?_⟩
   rw[e]
   exact abz l v i j hi.1
theorem aj6:zw 0 (λi=>(List.replicate 0 (AV.int .i64 0)).getD i AV.any)=[]:=rfl
theorem zw1 {g:FuncId} {v:Int} {r:AV} (h:KN g [a8 [], .int .i64 v] r):KN g [.seq .leaf 0 λi=>(List.replicate 0 (AV.int .i64 0)).getD i AV.any, .int .i64 v] r:=
 h.weaken (args':=[_,_]) rfl ⟨⟨rfl,rfl,λj hj=>absurd hj (by simp)⟩,⟨rfl,rfl⟩,trivial⟩
section
variable (l:List Int)
def q8:=↑l.length<=(9223372036854775807:Int)
variable (x0:Nat)
def SS:=(List.replicate 0 (AV.int j6 0)).getD x0 AV.any
def MC:Nat->AV:=λi=>SS i
def qmm:Int:=l.getD (Int.toNat 0) 0
def AK:List AV:=[AV.seq leaf 0 MC,AV.int j6 (qmm l)]
def MK:List Int:=zw 0 MC
def M9:=aQ MK (qmm l)
def Fw:=0<=0
def JM:=a8 (fD MK (qmm l))
def vh:Int:=0+1
def Xq:=aM j6 vh
variable (x1:Nat)
def VI:=1<=x1/\x1<=l.length
def Kj:=vh=↑x0
def Cj:=!M9 l
def Nv:=decide ((0:Int)<↑l.length)
def og:Int:=l.getD (↑x1:Int).toNat 0
def AA:List AV:=[a8 (dO (List.take x1 l)),AV.int j6 (og l x1)]
def Dq:List Int:=zw (dO (List.take x1 l)).length λi=>AV.int j6 ((dO (List.take x1 l)).getD i 0)
def Qg:=aQ (Dq l x1) (og l x1)
def DL:=a8 (fD (Dq l x1) (og l x1))
variable (x2:Nat)
def nu:=l.length - x2<l.length - x1
def ER:=!Qg l x1
end
theorem kMk (hl:l.length<=1000000):KN 82 [a8 l] (a8 (dO l)):=by
 refine Kn {vR2 26 (λ_=>none)with sK:=alb l} Tryz.func82 (0*leaf.size<=16777216/\(q8 l/\(Nv l=true->af 0 l.length/\KN 70 (AK l) (AV.bool (M9 l))/\Fw/\(Cj l=true->af 0 l.length/\Fw/\Fw/\Fw/\Fw/\KN 151 (AK l) (JM l)/\Xq/\(∃ j,VI l j/\LT (a8 l)/\LS (JM l) (a8 (dO (List.take j l)))/\Kj j))/\(Cj l=false->Xq/\(∃ j,VI l j/\LT (a8 l)/\AV.own 5 0=a8 (dO (List.take j l))/\Kj j)))/\(Nv l=false->Fw/\0=(dO l).length/\∀ i:Nat,i<0->SS i=AV.int j6 ((dO l).getD i 0)))/\∀ i:Nat,VI l i->q8 l/\(qe l i=true->af (↑i) l.length/\KN 70 (AA l i) (AV.bool (Qg l i))/\(ER l i=true->af (↑i) l.length/\KN 151 (AA l i) (DL l i)/\qa i/\(∃ j,VI l j/\nu l i j/\LT (a8 l)/\LS (DL l i) (a8 (dO (List.take j l)))/\qb i j))/\(ER l i=false->qa i/\(∃ j,VI l j/\nu l i j/\LT (a8 l)/\LS (a8 (dO (List.take i l))) (a8 (dO (List.take j l)))/\qb i j)))/\(qe l i=false->LS (a8 (dO (List.take i l))) (a8 (dO l)))) ?_
 try delta q8 SS MC qmm AK MK M9 Fw JM vh Xq VI Kj Cj Nv og AA Dq Qg DL q9 qa nu qb ER qe
 simp only[SZ]
 simp only[oR,aj6]
 refine⟨by decide,⟨by omega,λh0=>⟨by omega,zw1 (Ts [] _ (by simp)),λ_=>⟨by omega,zw1 (aac [] _ (by simp)),za (by omega) (by omega),1,⟨by omega,by omega⟩, ?_,rfl⟩,λh=>?_⟩,λh0=>?_⟩,λi hi=>⟨by omega,λhlt=>⟨hlt,Ts _ _ ?_,λh=>⟨hlt,aac _ _ ?_,za (by omega) (by omega),i+1,⟨by omega,hlt⟩,by omega, ?_,by omega⟩,λh=>⟨za (by omega) (by omega),i+1,⟨by omega,hlt⟩,by omega, ?_,by omega⟩⟩,λhge=>?_⟩⟩
 . have e:=yS (l:=l) (i:=0) (by omega) rfl
   rw[e]
   exact⟨rfl,λ_ _=>rfl⟩
 . cases h
 . have :l=[]:=xz (by omega)
   subst this
   exact⟨rfl,λi hi=>by omega⟩
 . have :=zp7 l i hi.2;omega
 . have :=zp7 l i hi.2;omega
 . rw[yS hlt h];exact⟨rfl,λ_ _=>rfl⟩
 . rw[zw0 hlt h];exact⟨rfl,λ_ _=>rfl⟩
 . rw[xu (by omega:l.length<=i)];exact⟨rfl,λ_ _=>rfl⟩
section
variable (l:List Int) (m:List Int) (x2:Nat)
def ot:Nat:=(List.filter (λx=>!aQ m x) (List.take x2 l)).length
def Sl:=0=ot l m x2
variable (x3:Nat)
def M5:=AV.int j6 ((List.filter (λx=>!aQ m x) (List.take x2 l)).getD x3 0)
variable (x1:Nat)
def QR:=AV.int j6 (og l x1)
def LG:=aQ (zw m.length λi=>AV.int j6 (m.getD i 0)) (og l x2)
def Ym:Nat:=ot l m x2+1
def Lm:=Ym l m x2=ot l m x3
def OV:=!LG l m x2
def Hj:=ot l m x2=ot l m x3
def NX:=ot l m x2<=ot l m x2
def FZ:=a8 (dO (zw (ot l m x2) λi=>M5 l m x2 i))
end
theorem afq (hl:l.length<=1000000) (hm:m.length<=1000000):KN 214 [a8 l,a8 m] (a8 (dO (kQ l m))):=by
 refine Kn (vR2 30 (zvz l m)) Tryz.func214 (0*leaf.size<=16777216/\(∃ i,i<=l.length/\(LT (a8 l)/\LT (a8 m)/\Sl l m i/\(0:Int)=↑i)/\Sl l m i/\∀ (i_1:Nat),i_1<(0:Nat)->(List.replicate (0:Nat) (AV.int j6 (0:Int))).getD i_1 AV.any=M5 l m i i_1)/\∀ i:Nat,i<=l.length->↑l.length<=(9223372036854775807:Int)/\(qe l i=true->af (↑i) l.length/\KN 70 [a8 m,QR l i] (AV.bool (LG l m i))/\(OV l m i=true->af (↑i) l.length/\1*leaf.size<=16777216/\(RR (ot l m i)/\↑(Ym l m i)*↑(8:Nat)<=(140737488355328:Int)/\Ym l m i<=9223372036854775807)/\1<=1/\qa i/\(∃ j,j<=l.length/\nu l i j/\(LT (a8 l)/\LT (a8 m)/\Lm l m i j/\qb i j)/\Lm l m i j/\∀ (i_1:Nat),i_1<Ym l m i->(if i_1<(List.filter (λx=>!aQ m x) (List.take i l)).length then M5 l m i i_1 else((List.replicate 1 (AV.int j6 0)).set 0 (aq (QR l i))).getD (i_1 - ot l m i) AV.any)=M5 l m j i_1))/\(OV l m i=false->qa i/\(∃ j,j<=l.length/\nu l i j/\(LT (a8 l)/\LT (a8 m)/\Hj l m i j/\qb i j)/\Hj l m i j/\∀ (i_1:Nat),i_1<ot l m i->M5 l m i i_1=M5 l m j i_1)))/\(qe l i=false->NX l m i/\NX l m i/\(KN 82 [a8 (List.filter (λx=>!aQ m x) (List.take i l))] (FZ l m i))/\LS (FZ l m i) (a8 (dO (kQ l m))))) ?_
 try delta ot Sl M5 og QR LG Ym q9 qa nu Lm qb OV Hj qe NX FZ
 simp only[SZ]
 simp only[oR,zh9]
 have hP:∀ i,((l.take i).filter λx=>!aQ m x).length<=l.length:=λi=>yd (yo _ _) (by rw[xr];omega)
 refine⟨by decide,⟨0,by omega,⟨by simp,rfl⟩,by simp,λj hj=>by omega⟩,λi hi=>⟨by omega,λhlt=>⟨hlt,Ts m _ hm,λh=>?_,λh=>?_⟩,λhge=>?_⟩⟩
 . have e:=z3m l (λx=>!aQ m x) i hlt
   rw[x9 (by rw[h];rfl)]at e
   have hp:=hP i
   refine⟨hlt,by decide,⟨by omega,by omega⟩,za (by omega) (by omega),i+1,hlt,by omega,⟨by rw[e];simp,by omega⟩,by rw[e];simp,λj hj=>?_⟩
   rw[e,kI _ _ j hj]
 . have e:=z3m l (λx=>!aQ m x) i hlt
   rw[x8 (by rw[h];simp),yb]at e
   exact⟨za (by omega) (by omega),i+1,hlt,by omega,⟨by rw[e],by omega⟩,by rw[e],λj hj=>by rw[e]⟩
 . have e:l.take i=l:=xu (by omega)
   rw[e]
   exact⟨kMk _ (by have :=hP l.length;rw[List.take_length]at this;omega),rfl,λ_ _=>rfl⟩
section
variable (l:List Int) (v:Int)
def NL:=a8 (dO (kQ (zw l.length λi=>AV.int j6 (l.getD i 0)) (zw 1 (T2 v))))
end
theorem aex (hl:l.length<=1000000):KN 159 [a8 l, .int .i64 v] (a8 (dO (kQ l [v]))):=by
 refine Kn (vR2 9 λ_=>none) Tryz.func159 (1*leaf.size<=16777216/\1<=1/\KN 214 [a8 l,AV.seq leaf (1:Nat) (T2 v)] (NL l v)/\LS (NL l v) (a8 (dO (kQ l [v])))) ?_
 try delta T2 NL
 simp only[SZ]
 simp only[oR,zha]
 refine⟨by decide, ?_,trivial,λ_ _=>trivial⟩
 refine(afq l [v] hl (by simp)).weaken (args':=[_,_]) rfl ⟨⟨rfl,rfl,λ_ _=>rfl⟩,⟨rfl,rfl,λj hj=>?_⟩,trivial⟩
 have :j=0:=by have :j<1:=hj;omega
 subst this;rfl
theorem zw2:(if j<l.length then if j<0 then(List.replicate 0 (AV.int .i64 0)).getD j AV.any else AV.int .i64 (l.getD (j - 0) 0)else AV.int .i64 (m.getD (j - l.length) 0))=AV.int .i64 ((l++m).getD j 0):=by
 split
 . rename_i h
   rw[x8 (by omega),yg,x7,x7,ya h]
 . rename_i h
   rw[x7,x7,y6 (by omega)]
theorem zp8:zw (l.length+m.length) (λj=>if j<l.length then if j<0 then(List.replicate 0 (AV.int .i64 0)).getD j AV.any else AV.int .i64 (l.getD (j - 0) 0)else AV.int .i64 (m.getD (j - l.length) 0))=l++m:=by
 have h:=oR (l++m)
 rw[xl]at h
 refine Eq.trans ?_ h
 show(List.range (l.length+m.length)).map _=(List.range (l.length+m.length)).map _
 apply List.map_congr_left
 intro j hj
 exact yt dI (zw2 l m j)
section
variable (l:List Int)
def XH:Nat:=0+l.length
variable (m:List Int)
def OG:Nat:=XH l+m.length
def qmn:=OG l m<=OG l m
def N7:Nat->AV:=λi=>if i<0+l.length then if i<0 then(List.replicate 0 (AV.int j6 0)).getD i AV.any else AV.int j6 (l.getD (i - 0) 0)else AV.int j6 (m.getD (i - XH l) 0)
def zU:=a8 (dO (zw (OG l m) (N7 l m)))
end
theorem ag7 (hl:l.length<=500000) (hm:m.length<=500000):KN 215 [a8 l,a8 m] (a8 (dO (l++m))):=by
 refine Kn (vR2 14 λ_=>none) Tryz.func215 (0*leaf.size<=16777216/\(RR 0/\↑(XH l)*↑(8:Nat)<=(140737488355328:Int)/\XH l<=9223372036854775807)/\(RR (XH l)/\↑(OG l m)*↑(8:Nat)<=(140737488355328:Int)/\OG l m<=9223372036854775807)/\qmn l m/\qmn l m/\qmn l m/\KN 82 [AV.seq leaf (OG l m) (N7 l m)] (zU l m)/\LS (zU l m) (a8 (dO (l++m)))) ?_
 try delta XH OG qmn N7 zU
 simp only[SZ]
 simp only[zp8]
 refine⟨by decide,⟨by omega,by omega⟩,⟨by omega,by omega⟩, ?_,trivial,λ_ _=>trivial⟩
 exact(kMk (l++m) (by simp;omega)).weaken (args':=[_]) rfl ⟨⟨rfl,by simp,λj _=>zw2 l m j⟩,trivial⟩
end
end Go.Proofs.S25
