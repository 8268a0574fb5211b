import Derived.Test.YtcfagpelpjdmaaaGreatDoorXx
import Derived.Test.YtcfagpelpjdmaaaGreatDoorXw
namespace Go.Proofs.S25
open Go Go.AV
open Go.IntKind renaming i64 -> j6
open Go.AV.Shape (leaf)
noncomputable section
theorem z1n8 (f:PFun) {i n:Nat} (h:i<n):bkR f (n - i) i=(bkI f i || bkR f (n - (i+1)) (i+1)):=by
 rw[show n - i=n - (i+1)+1 from by omega];rfl
section
variable (f:PFun) (x1:Nat)
def q1xc:=x1<=f.code.length/\bkR f (f.code.length - x1) x1=bkB f
def q1yj:=(f.code.getD (↑x1:Int).toNat c0i).op==4
def q1xd:=(!q1yj f x1)=true
def q1wh:=q1xd f x1->q1xd f x1
def q1yk:=q1yj f x1||(f.code.getD (↑x1:Int).toNat c0i).op==5
def q1xe:=q1yk f x1=true
def q1we:=q1xe f x1->q1xe f x1
def q1yl:=q1yk f x1&&decide ((f.code.getD (↑x1:Int).toNat c0i).n<=(↑x1:Int))
def q1wt:=decide ((↑x1:Int)<(↑f.code.length:Int))
end
theorem kXbk (f:PFun) (h:f.code.length<=12):KN 95 [vFn f] (.bool (bkB f)):=by
 refine Kn (vXs 37 (z1n2 f)) Tryz.func95 ((∃ i,q1xc f i/\(0:Int)=↑i/\RR f.name/\LT (z4l f.code))/\∀ i:Nat,q1xc f i->↑f.code.length<=(9223372036854775807:Int)/\(q1wt f i=true->inIx (↑i) f.code.length/\q1wh f i/\q1wh f i/\q1wh f i/\(q1xd f i->inIx (↑i) f.code.length)/\q1wh f i/\q1wh f i/\q1wh f i/\q1wh f i/\q1we f i/\q1we f i/\q1we f i/\(q1xe f i->inIx (↑i) f.code.length)/\q1we f i/\q1we f i/\q1we f i/\q1we f i/\q1we f i/\(q1yl f i=true->true=bkB f)/\(q1yl f i=false->InR j6 (q6 i)/\(∃ j,q1xc f j/\f.code.length - j<f.code.length - i/\q6 i=↑j/\RR f.name/\LT (z4l f.code))))/\(q1wt f i=false->false=bkB f)) ?_
 try delta q1xc q1yj q1xd q1wh q1yk q1xe q1we q1yl q6 q1wt
 simp only[SB,SX,inIx,reduceCtorEq,Int.reduceToNat]
 refine⟨⟨0,⟨Nat.zero_le _,rfl⟩,rfl⟩,fun i hi=>⟨by omega,fun hlt=>⟨hlt,fun _=>hlt,fun _=>hlt,fun hy=>?_,fun hn=>⟨za (by omega) (by omega),i+1,⟨by omega, ?_⟩,by omega,by omega⟩⟩,fun hge=>?_⟩⟩
 . have e:=hi.2
   have hb:bkI f i=true:=by unfold bkI;simp only[Bool.and_eq_true,Bool.or_eq_true,beq_iff_eq,decide_eq_true_eq];exact hy
   rw[z1n8 f hlt,hb,Bool.true_or]at e
   exact e
 . have e:=hi.2
   have hb:bkI f i=false:=by unfold bkI;rw[<- Bool.not_eq_true];simp only[Bool.and_eq_true,Bool.or_eq_true,beq_iff_eq,decide_eq_true_eq];omega
   rw[z1n8 f hlt,hb,Bool.false_or]at e
   exact e
 . have e:=hi.2
   rw[show f.code.length - i=0 from by omega]at e
   exact e
theorem z1lv (f:PFun):∀ i:Nat,0<=spC f i/\spC f i<=i
 |0=>⟨Int.le_refl _,Int.le_refl _⟩
 |i+1=>by have :=z1lv f i;unfold spC;split<;>omega
theorem z1mh {f:PFun} {b:Int} (h:f.code.length<=12) (hb:b<=8):0<=spwF f b/\spwF f b<=12:=by
 have :=z1lv f f.code.length
 unfold spwF;split<;>omega
section
variable (f:PFun) (x1:Nat)
def q1ym:Int:=spC f x1+1
variable (x2:Nat)
def q1yn:=f.code.length - x2<f.code.length - x1
def q1yo:=(f.code.getD (↑x1:Int).toNat c0i).op==21
def q1yp:=decide (0<spC f x1)
def q1xf:=q1yp f x1=true
def q1yq:=q1xf f x1->q1xf f x1
def q1yr:=q1yp f x1&&bkB (dF (encF f))
end
theorem z1n9 (f:PFun) (b:Int) (h:f.code.length<=12):KN 53 [vFn f, .int .i64 b] (.int .i64 (spwF f b)):=by
 refine Kn (vXs 33 (z1me f b)) Tryz.func53 ((∃ i,i<=f.code.length/\(RR b/\(0:Int)=spC f i/\(0:Int)=↑i)/\RR f.name/\LT (z4l f.code))/\∀ i:Nat,i<=f.code.length->↑f.code.length<=(9223372036854775807:Int)/\(q1wt f i=true->inIx (↑i) f.code.length/\(q1yo f i=true->InR j6 (q1ym f i)/\qa i/\(∃ j,j<=f.code.length/\q1yn f i j/\(RR b/\q1ym f i=spC f j/\qb i j)/\RR f.name/\LT (z4l f.code)))/\(q1yo f i=false->qa i/\(∃ j,j<=f.code.length/\q1yn f i j/\(RR b/\spC f i=spC f j/\qb i j)/\RR f.name/\LT (z4l f.code))))/\(q1wt f i=false->q1yq f i/\(q1xf f i->KN 95 [AV.mc z16 (encF f)] (AV.bool (bkB (dF (encF f)))))/\q1yq f i/\(q1yr f i=true->(if spC f i<b then b else spC f i)=spwF f b)/\(q1yr f i=false->spC f i=spwF f b))) ?_
 try delta q1ym q6 qa q1yn qb q1yo q1wt q1yp q1xf q1yq q1yr
 simp only[SB,SX,inIx,reduceCtorEq,Int.reduceToNat]
 have hs:=z1lv f
 refine⟨⟨0,Nat.zero_le _,rfl,rfl⟩,fun i hi=>⟨by omega,fun hlt=>⟨hlt,fun hy=>⟨za (by have :=hs i;omega) (by have :=hs i;omega),za (by omega) (by omega),i+1,by omega,by omega,by show _=if _ then _ else _;rw[if_pos hy],by omega⟩,fun hy=>⟨za (by omega) (by omega),i+1,by omega,by omega,by show _=if _ then _ else _;rw[if_neg hy],by omega⟩⟩,fun hge=>?_⟩⟩
 obtain rfl:i=f.code.length:=by omega
 refine⟨fun _=>kXbk f h,fun hy=>?_,fun hy=>?_⟩
 . unfold spwF;rw[if_pos hy];split<;>omega
 . unfold spwF;rw[if_neg (fun h=>by rcases hy with h1 |h1<;>simp_all)]
theorem z1mi {p:PProg} {b:Int} (hc:∀ j,j<p.funs.length ->(p.funs.getD j c0f).code.length<=12) (hb:b<=8):∀ i:Nat,0<=lnN p b i/\lnN p b i<=p.thr.length+12*i
 |0=>⟨by show(0:Int)<=p.thr.length;omega,by show(p.thr.length:Int)<=_;omega⟩
 |i+1=>by
  have :=z1mi hc hb i
  unfold lnN;split
  . rename_i h
    have :=z1mh (f:=p.funs.getD (p.thr.getD i c0s).fn.toNat c0f) (hc _ (by omega)) hb
    omega
  . omega
theorem z1na (p:PProg) (b:Int) (f:PFun) {i n:Nat} (h:i<n):lnG p b f (n - i) i=(lnI p b (f.code.getD i c0i) || lnG p b f (n - (i+1)) (i+1)):=by
 rw[show n - i=n - (i+1)+1 from by omega];rfl
theorem z1nb (p:PProg) (b:Int) {i n:Nat} (h:i<n):lnH p b (n - i) i=(lnG p b (p.funs.getD i c0f) (p.funs.getD i c0f).code.length 0 || lnH p b (n - (i+1)) (i+1)):=by
 rw[show n - i=n - (i+1)+1 from by omega];rfl
section
variable (p:PProg) (x1:Nat)
def q1ys:=decide (0<=(p.thr.getD (↑x1:Int).toNat c0s).fn)
def q1xg:=q1ys p x1=true
def q1wu:=q1xg p x1->q1xg p x1
def q1wj:=↑p.funs.length<=(9223372036854775807:Int)
def q1yt:=encF (p.funs.getD (p.thr.getD (↑x1:Int).toNat c0s).fn.toNat c0f)
variable (b:Int) (x2:Nat)
def q1yu:Int:=spwF (dF (q1yt p x2)) b
def q1yv:Int:=lnN p b x2+q1yu p b x2
def q1yw:=p.thr.length - x2<p.thr.length - x1
def q1yx:=q1ys p x1&&decide ((p.thr.getD (↑x1:Int).toNat c0s).fn<(↑p.funs.length:Int))
def q1yy:=lnH p b (p.funs.length - x2) x2=lnH p b p.funs.length 0
def q1xh:=x2<=p.funs.length/\q1yy p b x2
def q1xi:Nat:=(p.funs.getD x1 c0f).code.length - x2
variable (x3:Nat)
def q1xj:=x3<=(p.funs.getD x2 c0f).code.length/\lnG p b (p.funs.getD x2 c0f) (q1xi p x2 x3) x3=lnG p b (p.funs.getD x2 c0f) (p.funs.getD x2 c0f).code.length 0/\x2<p.funs.length/\q1yy p b x2
def q1yz:Nat:=(p.funs.getD (↑x1:Int).toNat c0f).code.length
def q1z0:Inst:=(p.funs.getD (↑x1:Int).toNat c0f).code.getD (↑x2:Int).toNat c0i
def q1z1:=(q1z0 p x1 x2).op==21
def q1z2:=q1z1 p x1 x2=true
def q1xk:=q1z2 p x1 x2->q1z2 p x1 x2
def q1z3:=q1z1 p x1 x2&&decide (0<=((p.funs.getD (↑x1:Int).toNat c0f).code.getD (↑x2:Int).toNat c0i).obj)
def q1xl:=q1z3 p x1 x2=true
def q1wk:=q1xl p x1 x2->q1xl p x1 x2
def q1z4:=q1z3 p x1 x2&&decide (((p.funs.getD (↑x1:Int).toNat c0f).code.getD (↑x2:Int).toNat c0i).obj<(↑p.funs.length:Int))
def q1wy:=q1z4 p x1 x2=true
def q1wa:=q1wy p x1 x2->q1wy p x1 x2
def q1z5:Int:=(q1z0 p x1 x2).obj
def q1z6:=encF (p.funs.getD (q1z5 p x1 x2).toNat c0f)
def q1z7:=q1z4 p x2 x3&&decide (0<spwF (dF (encF (p.funs.getD ((p.funs.getD (↑x2:Int).toNat c0f).code.getD (↑x3:Int).toNat c0i).obj.toNat c0f))) b)
def q1z8:=decide ((↑x2:Int)<(↑(p.funs.getD (↑x1:Int).toNat c0f).code.length:Int))
end
theorem kXln (p:PProg) (b:Int) (hf:p.funs.length<=4) (ht:p.thr.length<=4) (hb:b<=8) (hc:∀ j,j<p.funs.length ->(p.funs.getD j c0f).code.length<=12):KN 31 [vP p, .int .i64 b] (.bool (lnB p b)):=by
 refine Kn (vXs 101 (z1n4 p b) (z1mf p b)) Tryz.func31 (q55 p/\(∃ i,i<=p.thr.length/\(RR b/\↑p.thr.length=lnN p b i/\(0:Int)=↑i)/\LT (encP p))/\∀ i:Nat,i<=p.thr.length->q55 p/\(q2a p i=true->inIx (↑i) p.thr.length/\q1wu p i/\q1wu p i/\(q1xg p i->q1wj p)/\q1wu p i/\q1wu p i/\q1wu p i/\(q1yx p i=true->inIx (p.thr.getD (↑i:Int).toNat c0s).fn p.funs.length/\KN 53 [AV.mc z16 (q1yt p i),AV.int j6 b] (AV.int j6 (q1yu p b i))/\InR j6 (q1yv p b i)/\qa i/\(∃ j,j<=p.thr.length/\q1yw p i j/\(RR b/\q1yv p b i=lnN p b j/\qb i j)/\LT (encP p)))/\(q1yx p i=false->qa i/\(∃ j,j<=p.thr.length/\q1yw p i j/\(RR b/\lnN p b i=lnN p b j/\qb i j)/\LT (encP p))))/\(q2a p i=false->(∃ i_1,q1xh p b i_1/\(RR b/\lnN p b i=lnN p b p.thr.length/\(0:Int)=↑i_1)/\LT (encP p))/\∀ (i:Nat),q1xh p b i->q1wj p/\(q1n p i=true->∃ p_1,(∃ i_1,q1xj p b p_1 i_1/\(RR b/\RR (lnN p b p.thr.length)/\(↑i:Int)=(↑p_1:Int)/\(0:Int)=(↑i_1:Int))/\LT (encP p))/\∀ (i_1:Nat),q1xj p b p_1 i_1->inIx (↑p_1:Int) p.funs.length/\(↑(q1yz p p_1):Int)<=(9223372036854775807:Int)/\(q1z8 p p_1 i_1=true->inIx (↑p_1:Int) p.funs.length/\inIx (↑i_1:Int) (q1yz p p_1)/\q1xk p p_1 i_1/\q1xk p p_1 i_1/\q1xk p p_1 i_1/\q1wk p p_1 i_1/\q1wk p p_1 i_1/\q1wk p p_1 i_1/\(q1xl p p_1 i_1->q1wj p)/\q1wk p p_1 i_1/\q1wk p p_1 i_1/\q1wk p p_1 i_1/\q1wa p p_1 i_1/\q1wa p p_1 i_1/\q1wa p p_1 i_1/\q1wa p p_1 i_1/\(q1wy p p_1 i_1->inIx (q1z5 p p_1 i_1) p.funs.length)/\q1wa p p_1 i_1/\q1wa p p_1 i_1/\q1wa p p_1 i_1/\(q1wy p p_1 i_1->KN 53 [AV.mc z16 (q1z6 p p_1 i_1),AV.int j6 b] (AV.int j6 (spwF (dF (q1z6 p p_1 i_1)) b)))/\q1wa p p_1 i_1/\q1wa p p_1 i_1/\(q1z7 p b p_1 i_1=true->false=lnB p b)/\(q1z7 p b p_1 i_1=false->qa i_1/\∃ j,q1xj p b p_1 j/\q1xi p p_1 j<q1xi p p_1 i_1/\(RR b/\RR (lnN p b p.thr.length)/\RR (↑p_1:Int)/\qb i_1 j)/\LT (encP p)))/\(q1z8 p p_1 i_1=false->qa p_1/\∃ j,q1xh p b j/\p.funs.length - j<p.funs.length - i/\(RR b/\RR (lnN p b p.thr.length)/\qb p_1 j)/\LT (encP p)))/\(q1n p i=false->decide (lnN p b p.thr.length<=(5:Int))=lnB p b))) ?_
 try delta q55 q1ys q1xg q1wu q1wj q1yt q1yu q1yv q6 qa q1yw qb q1yx q2a q1yy q1xh q1xi q1xj q1yz q1z0 q1z1 q1z2 q1xk q1z3 q1xl q1wk q1z4 q1wy q1wa q1z5 q1z6 q1z7 q1z8 q1n
 simp only[SB,SX,inIx,reduceCtorEq,Int.reduceToNat]
 have hn:=z1mi hc hb
 have hw:=fun(k:Int) (h:0<=k/\k<p.funs.length)=>z1mh (f:=p.funs.getD k.toNat c0f) (hc _ (by omega)) hb
 refine⟨by omega,⟨0,Nat.zero_le _,rfl,rfl⟩,fun i hi=>⟨by omega,fun hlt=>⟨hlt,fun _=>by omega,fun hy=>⟨hy,z1n9 _ b (hc _ (by omega)),za (by have :=hn i;have :=hw _ hy;omega) (by have :=hn i;have :=hw _ hy;omega),za (by omega) (by omega),i+1,by omega,by omega,by show _=if _ then _ else _;rw[if_pos hy],by omega⟩,fun hy=>⟨za (by omega) (by omega),i+1,by omega,by omega,by show _=if _ then _ else _;rw[if_neg (by omega)],by omega⟩⟩,fun hge=>?_⟩⟩
 obtain rfl:i=p.thr.length:=by omega
 refine⟨⟨0,⟨Nat.zero_le _,rfl⟩,rfl,rfl⟩,fun i hi=>⟨by omega,fun hlt=>⟨i,⟨0,⟨Nat.zero_le _,rfl,hlt,hi.2⟩,rfl,rfl⟩,fun k hk=>?_⟩,fun hge=>?_⟩⟩
 . have hc':=hc i hlt
   refine⟨hlt,by omega,fun hl2=>⟨hlt,hl2,fun _=>by omega,fun hy=>⟨hy.1.2,hy.2⟩,fun hy=>z1n9 _ b (hc _ (by omega)),fun hy=>?_,fun hy=>⟨za (by omega) (by omega),k+1,⟨by omega, ?_,hlt,hi.2⟩,by omega,by omega⟩⟩,fun hge=>⟨za (by omega) (by omega),i+1,⟨by omega, ?_⟩,by omega,by omega⟩⟩
   . have hx:lnI p b ((p.funs.getD i c0f).code.getD k c0i)=true:=by
      unfold lnI;simp only[Bool.and_eq_true,beq_iff_eq,decide_eq_true_eq];exact⟨⟨hy.1.1.1,hy.1.1.2,hy.1.2⟩,hy.2⟩
     have e:=hk.2.1
     rw[z1na p b _ hl2,hx,Bool.true_or]at e
     have e2:=hi.2
     rw[z1nb p b hlt,<- e,Bool.true_or]at e2
     unfold lnB;rw[<- e2];rfl
   . have hx:lnI p b ((p.funs.getD i c0f).code.getD k c0i)=false:=by
      unfold lnI;rw[<- Bool.not_eq_true];simp only[Bool.and_eq_true,beq_iff_eq,decide_eq_true_eq];omega
     have e:=hk.2.1
     rw[z1na p b _ hl2,hx,Bool.false_or]at e
     exact e
   . have e:=hk.2.1
     rw[show(p.funs.getD i c0f).code.length - k=0 from by omega]at e
     have e2:=hi.2
     rw[z1nb p b hlt,<- e]at e2
     exact e2
 . have e:=hi.2
   rw[show p.funs.length - i=0 from by omega]at e
   unfold lnB;rw[<- e];rfl
theorem z1nc (p:PProg) {i n:Nat} (h:i<n):smC p (n - i) i=(decide ((p.funs.getD i c0f).code.length<=12)&&smC p (n - (i+1)) (i+1)):=by
 rw[show n - i=n - (i+1)+1 from by omega];rfl
section
variable (p:PProg)
def q1z9:=decide ((4:Int)<↑p.funs.length)
def q1xm:=(!q1z9 p)=true
def q1wz:=q1xm p->q1xm p
def q1za:=q1z9 p||decide ((4:Int)<↑p.thr.length)
def q1zb:=(!q1za p)=true
def q1zc:=q1zb p->q1zb p
variable (b:Int)
def q1zd:=q1za p||decide (8<b)
def q1xn:=(!q1zd p b)=true
def q1x0:=q1xn p b->q1xn p b
def q1ze:=q1zd p b||decide ((8:Int)<↑p.vars.length)
def q1xo:=(!q1ze p b)=true
def q1x1:=q1xo p b->q1xo p b
def q1zf:=q1ze p b||decide ((4:Int)<↑p.muts.length)
def q1xp:=(!q1zf p b)=true
def q1x2:=q1xp p b->q1xp p b
def q1zg:=q1zf p b||decide ((4:Int)<↑p.conds.length)
variable (x2:Nat)
def q1xq:=x2<=p.funs.length/\smC p (p.funs.length - x2) x2=smC p p.funs.length 0/\(∀ j:Nat,j<x2->(p.funs.getD j c0f).code.length<=12)/\smH p b=true
variable (x1:Nat)
def q1zh:=decide (12<(↑(p.funs.getD (↑x1:Int).toNat c0f).code.length:Int))
end
theorem kXsm (p:PProg) (b:Int) (hp:FitP p):KN 9 [vP p, .int .i64 b] (.bool (smB p b)):=by
 refine Kn (vXs 56 (z1mg p b)) Tryz.func9 (q1wj p/\q1wz p/\q1wz p/\(q1xm p->↑p.thr.length<=(9223372036854775807:Int))/\q1wz p/\q1wz p/\q1zc p/\q1zc p/\q1x0 p b/\q1x0 p b/\(q1xn p b->↑p.vars.length<=(9223372036854775807:Int))/\q1x0 p b/\q1x0 p b/\q1x1 p b/\q1x1 p b/\(q1xo p b->↑p.muts.length<=(9223372036854775807:Int))/\q1x1 p b/\q1x1 p b/\q1x2 p b/\q1x2 p b/\(q1xp p b->↑p.conds.length<=(9223372036854775807:Int))/\q1x2 p b/\q1x2 p b/\(q1zg p b=true->false=smB p b)/\(q1zg p b=false->(∃ i,q1xq p b i/\(RR b/\(0:Int)=↑i)/\LT (encP p))/\∀ i:Nat,q1xq p b i->q1wj p/\(q1n p i=true->inIx (↑i) p.funs.length/\(↑(p.funs.getD (↑i:Int).toNat c0f).code.length:Int)<=9223372036854775807/\(q1zh p i=true->false=smB p b)/\(q1zh p i=false->InR j6 (q6 i)/\(∃ j,q1xq p b j/\p.funs.length - j<p.funs.length - i/\(RR b/\q6 i=↑j)/\LT (encP p))))/\(q1n p i=false->KN 31 [AV.mc z7 (encP p),AV.int j6 b] (AV.bool (lnB (dP (encP p)) b))/\lnB (dP (encP p)) b=smB p b))) ?_
 try delta q1wj q1z9 q1xm q1wz q1za q1zb q1zc q1zd q1xn q1x0 q1ze q1xo q1x1 q1zf q1xp q1x2 q1zg q1xq q1zh q6 q1n
 simp only[SB,SX,inIx,reduceCtorEq,Int.reduceToNat]
 have h1:=hp.vars
 have h2:=hp.muts
 have h3:=hp.conds
 have h4:=hp.thr
 have h5:=hp.funs
 refine⟨by omega,fun _=>by omega,fun _=>by omega,fun _=>by omega,fun _=>by omega,fun hy=>?_,fun hn=>⟨⟨0,⟨Nat.zero_le _,rfl,fun j hj=>by omega, ?_⟩,rfl⟩,fun i hi=>⟨by omega,fun hlt=>⟨hlt,by have :=hp.code i;omega,fun hy=>?_,fun hy=>⟨za (by omega) (by omega),i+1,⟨by omega, ?_,fun j hj=>?_,hi.2.2.2⟩,by omega,by omega⟩⟩,fun hge=>?_⟩⟩⟩
 . have :smH p b=false:=by unfold smH;rw[decide_eq_false_iff_not];omega
   unfold smB;rw[this];rfl
 . unfold smH;rw[decide_eq_true_eq];omega
 . have e:=hi.2.1
   rw[z1nc p hlt,show decide ((p.funs.getD i c0f).code.length<=12)=false from by rw[decide_eq_false_iff_not];omega,Bool.false_and]at e
   unfold smB;rw[<- e,Bool.false_and,Bool.and_false]
 . have e:=hi.2.1
   rw[z1nc p hlt,show decide ((p.funs.getD i c0f).code.length<=12)=true from by rw[decide_eq_true_eq];omega,Bool.true_and]at e
   exact e
 . by_cases e:j=i
   . subst e;omega
   . exact hi.2.2.1 j (by omega)
 . have e:=hi.2.1
   rw[show p.funs.length - i=0 from by omega]at e
   refine⟨kXln p b (by omega) (by omega) (by omega) fun j hj=>hi.2.2.1 j (by omega), ?_⟩
   unfold smB;rw[hi.2.2.2,<- e];rfl
section
variable (a:List Int)
def q24i:=↑a.length<=(9223372036854775807:Int)
variable (b:List Int)
def q24j:=false=decide (a=b)
def q24k:=(↑a.length:Int) !=(↑b.length:Int)
variable (x2:Nat)
def q248:=x2<=a.length/\a.length=b.length/\∀ j:Nat,j<x2->a.getD j 0=b.getD j 0
def q24l:=a.getD (↑x2:Int).toNat 0 !=b.getD (↑x2:Int).toNat 0
variable (x1:Nat)
def q24m:=decide ((↑x1:Int)<(↑a.length:Int))
end
theorem z1pv (a b:List Int) (ha:a.length<=1000000) (hb:b.length<=1000000):KN 18 [rowI a,rowI b] (.bool (decide (a=b))):=by
 refine Kn (vXs 26 (z1pt a b)) Tryz.func18 (q24i a/\↑b.length<=(9223372036854775807:Int)/\(q24k a b=true->q24j a b)/\(q24k a b=false->(∃ i,q248 a b i/\LT (rowI a)/\LT (rowI b)/\(0:Int)=↑i)/\∀ i:Nat,q248 a b i->q24i a/\(q24m a i=true->inIx (↑i) a.length/\inIx (↑i) b.length/\(q24l a b i=true->q24j a b)/\(q24l a b i=false->InR j6 (q6 i)/\(∃ j,q248 a b j/\a.length - j<a.length - i/\LT (rowI a)/\LT (rowI b)/\q6 i=↑j)))/\(q24m a i=false->true=decide (a=b)))) ?_
 try delta q24i q24j q24k q248 q24l q6 q24m
 simp only[SB,SX,inIx,reduceCtorEq,Int.reduceToNat]
 refine⟨by omega,by omega,fun h=>?_,fun h=>⟨⟨0,⟨by omega,by omega,fun j hj=>by omega⟩,rfl⟩,fun i hi=>⟨by omega,fun hlt=>⟨hlt,by omega,fun hn=>?_,fun he=>⟨za (by omega) (by omega),i+1,⟨by omega,hi.2.1,fun j hj=>?_⟩,by omega,by omega⟩⟩,fun hge=>?_⟩⟩⟩
 . exact d_no (by rintro rfl;exact h rfl)
 . exact d_no (by rintro rfl;exact hn rfl)
 . by_cases e:j=i
   . subst e;exact he
   . exact hi.2.2 j (by omega)
 . exact zqd (z3d hi.2.1 fun j hj=>hi.2.2 j (by omega))
def zud:AV:= .seqc z17 0 fun i=>encB (([]:List Buf).getD i c0b)
def vStc (s:SState):AV:= .mc stSh (.agg [rowT s.thr,encM s.mem,zud])
def vSpO (s:SState):AV:= .mc stSh (.agg [.own 0 s.thr.length,encM s.mem,zud])
def z1ak (s:SState):BoxC:= .cell 41 stSh (.agg [rowT s.thr,encM s.mem,zud])
def z1al (p:PProg) (b:Int) (s:SState) (id fn arg:Int) (k:Nat):Option Inv:=match Nat.beq k 8 with
 |true=>iw s.thr.length (fun i=>⟨[(3, .int .i64 id),(8, .ptr 8 []),(12, .ptr 12 []),(16, .ptr 16 []),(18, .int .i64 i)],[(8,z1ak s),(12,z2z c0st),(16, .cell 86 zk (encT (newT p b id fn arg).1))]⟩) fun i=>(fid s.thr id<0/\(newT p b id fn arg).2=0)/\∀ j,j<i ->(s.thr.getD j c0t).id<id
 |false=>none
theorem z12i (l:List Thr) (id:Int):∀ (i:Nat),i<=l.length ->(∀ j,j<i ->(l.getD j c0t).id<id) ->(i<l.length ->¬ (l.getD i c0t).id<id) ->posT l id=i:=by
 unfold posT
 induction l with
 |nil=>intro i hi _ _;have :i=0:=by simpa using hi
       subst this;rfl
 |cons t l ih=>
  intro i hi h1 h2
  cases i with
  |zero=>
   have :=h2 (by simp)
   rw[List.takeWhile_cons_of_neg (by simpa using this)];rfl
  |succ i=>
   have h0:t.id<id:=h1 0 (by omega)
   rw[List.takeWhile_cons_of_pos (by simpa using h0),List.length_cons,ih i (by simpa using hi) (fun j hj=>h1 (j+1) (by omega)) fun h=>h2 (by simpa using h)]
theorem z9p (l:List Thr) (id:Int):posT l id<=l.length:=(List.takeWhile_sublist _).length_le
theorem z9q (l:List Thr) (t:Thr) (k:Nat) (hk:k<=l.length):(insT l t k).length=l.length+1:=by
 unfold insT
 simp only[List.length_append,List.length_cons,List.length_take,List.length_drop];omega
theorem z9r (l:List Thr) (t:Thr) (k:Nat) (hk:k<=l.length) (j:Nat):(insT l t k).getD j c0t=if j<k then l.getD j c0t else if j=k then t else l.getD (j - 1) c0t:=by
 unfold insT
 have hl:(l.take k).length=k:=by rw[List.length_take];omega
 simp only[List.getD_eq_getElem?_getD]
 split
 . rw[List.getElem?_append_left (by omega),List.getElem?_take_of_lt (by omega)]
 . rw[List.getElem?_append_right (by omega),hl]
   split
   . rename_i e;subst e;simp
   . obtain⟨d,rfl⟩:∃ d,j=k+(d+1):=⟨j - k - 1,by omega⟩
     rw[show k+(d+1) - k=d+1 from by omega,List.getElem?_cons_succ,List.getElem?_drop];congr 3
theorem zue (l:List Thr) (t:Thr) (i j:Nat) (z:AV) (hi:i<=l.length):(if i+1<=j/\j<i+1+(l.length - i)then encT (l.getD (i+(j - (i+1))) c0t)else if j=i then encT t else if j<i then encT (l.getD j c0t)else z)=if j<l.length+1 then encT ((insT l t i).getD j c0t)else z:=by
 rw[z9r _ _ _ hi]
 by_cases h1:j<i
 . rw[if_neg (by omega),if_neg (by omega),if_pos h1,if_pos (by omega),if_pos h1]
 . by_cases h2:j=i
   . rw[if_neg (by omega),if_pos h2,if_pos (by omega),if_neg h1,if_pos h2]
   . by_cases h3:j<l.length+1
     . rw[if_pos (by omega),if_pos h3,if_neg h1,if_neg h2,show i+(j - (i+1))=j - 1 from by omega]
     . rw[if_neg (by omega),if_neg h2,if_neg h1,if_neg h3]
section
variable (s:SState) (id:Int)
def qrj:=decide (0<=fid (dR dT (rowT s.thr)) id)
end
section
variable (p:PProg) (b:Int) (s:SState) (id:Int) (fn:Int) (arg:Int)
def q1hq:Nat:=(z1h p b s id fn arg).fst.thr.length
def q1hr:=q1hq p b s id fn arg=0
def q1hs:=((q1hr p b s id fn arg/\((z1h p b s id fn arg).fst.mem.vars.length=0/\(z1h p b s id fn arg).fst.mem.owners.length=0/\(z1h p b s id fn arg).fst.mem.queues.length=0/\(z1h p b s id fn arg).fst.mem.sig.length=0)/\RR 0)/\30=(z1h p b s id fn arg).snd)/\q1hr p b s id fn arg
def q1ht:=(newT (dP (encP p)) b id fn arg).snd !=0
variable (x6:Nat)
def qrk:=x6<=s.thr.length/\(fid s.thr id<0/\(newT p b id fn arg).snd=0)/\∀ j:Nat,j<x6->(s.thr.getD j c0t).id<id
def q1hu:=RR (AV.seqc z17 0 fun i=>encB ([].getD i c0b))
def q1hv:=LT (rowT s.thr)/\LT (encM s.mem)/\q1hu
variable (x1:Nat)
def qrl:=qc s x1=true
def q4u:=qrl s x1->qrl s x1
variable (x2:Nat)
def q1hw:=qc s x2&&decide ((s.thr.getD (↑x2:Int).toNat c0t).id<id)
def q6n:Int:=↑s.thr.length+1
def q1hx:=(↑x1:Int)<=(↑s.thr.length:Int)
def q4v:Nat:=(q6n s).toNat
def qei:Int:=↑(q4v s)
variable (x0:Nat)
def q1hy:Nat:=(q6 x0).toNat
def q1hz:Nat:=(qei s - q6 x1).toNat
def q1i0:=q4v s=q1hq p b s id fn arg
end
theorem z1an (p:PProg) (b:Int) (s:SState) (id fn arg:Int) (hp:PSm p) (hs:SSm s) (hid:id<=9223372036854775807):KF 117 [vP p, .int .i64 b,vStc s, .int .i64 id, .int .i64 fn, .int .i64 arg] (.tup [vSpO (z1h p b s id fn arg).1, .int .i64 (z1h p b s id fn arg).2]) [tBox (z1h p b s id fn arg).1.thr]:=by
 refine KnF (vMa 85 (z1al p b s id fn arg)) Tryz.func117 (KN 119 [rowT s.thr,AV.int j6 id] (AV.tup [AV.int j6 (max (fid (dR dT (rowT s.thr)) id) (0:Int)),AV.bool (qrj s id)])/\(qrj s id=true->q1hs p b s id fn arg)/\(qrj s id=false->KN 121 [AV.mc z7 (encP p),AV.int j6 b,AV.int j6 id,AV.int j6 fn,AV.int j6 arg] (AV.tup [AV.mc zk (encT (newT (dP (encP p)) b id fn arg).fst),AV.int j6 (newT (dP (encP p)) b id fn arg).snd])/\(q1ht p b id fn arg=true->q1hs p b s id fn arg)/\(q1ht p b id fn arg=false->(∃ (i:Nat),qrk p b s id fn arg i/\(RR id/\(0:Int)=(↑i:Int))/\q1hv s/\((0:Nat)=(0:Nat)/\((0:Nat)=(0:Nat)/\(0:Nat)=(0:Nat)/\(0:Nat)=(0:Nat)/\(0:Nat)=(0:Nat))/\(0:Nat)=(0:Nat))/\LS (encT (Prod.fst (newT (dP (encP p)) b id fn arg))) (encT (Prod.fst (newT p b id fn arg))))/\∀ i:Nat,qrk p b s id fn arg i->q1r s/\q4u s i/\q4u s i/\q4u s i/\(qrl s i->inIx (↑i) s.thr.length)/\q4u s i/\q4u s i/\q4u s i/\q4u s i/\q4u s i/\(q1hw s id i=true->qa i/\(∃ j,qrk p b s id fn arg j/\s.thr.length - j<s.thr.length - i/\(RR id/\q6 i=↑j)/\q1hv s/\(LT (rowT [])/\(LT (rowI [])/\LT (rowI [])/\LT (rowQ [])/\LT (rowI []))/\LT (rowB []))/\LT (encT (newT p b id fn arg).fst)))/\(q1hw s id i=false->q1r s/\InR j6 (q6n s)/\(0<=q6n s/\q6n s<=q6n s/\↑(152:Nat)*q6n s<=(140737488355328:Int)/\q6n s<=9223372036854775807)/\((0:Int)<=(0:Int)/\(0:Int)<=↑i/\q1hx s i)/\(q4v s<=q4v s/\qei s<=9223372036854775807)/\inIx (↑i) (q4v s)/\(↑i:Int).toNat<q4v s/\qa i/\(0<=q6 i/\q6 i<=qei s/\qei s<=qei s)/\((0:Int)<=↑i/\q1hx s i/\(↑s.thr.length:Int)<=(↑s.thr.length:Int))/\(q1hy i+q1hz s i<=q4v s/\↑(q1hz s i)<=(9223372036854775807:Int))/\((q1i0 p b s id fn arg/\LS (encM s.mem) (encM (z1h p b s id fn arg).fst.mem)/\q1hu)/\0=(z1h p b s id fn arg).snd)/\q1i0 p b s id fn arg/\∀ (i_1:Nat),i_1<q4v s->(if((↑i:Int)+1).toNat<=i_1/\i_1<((↑i:Int)+1).toNat+min ((↑s.thr.length:Int) - (↑i:Int)).toNat ((↑((↑s.thr.length:Int)+1).toNat:Int) - ((↑i:Int)+1)).toNat then encT (s.thr.getD ((↑i:Int).toNat+(i_1 - q1hy i)) c0t)else if i_1=(↑i:Int).toNat then encT (newT p b id fn arg).fst else if i_1<min ((↑i:Int) - 0).toNat ((↑s.thr.length:Int)+1).toNat then encT (s.thr.getD (Int.toNat 0+i_1) c0t)else AV.agg [AV.int j6 0,AV.int j6 0,AV.int j6 0,AV.arr 8 fun x=>AV.int j6 0,AV.int j6 0,AV.int j6 0,AV.int j6 0,AV.int j6 0,AV.int j6 0,AV.nils])=encT ((z1h p b s id fn arg).fst.thr.getD i_1 c0t))))) ?_
 try delta qrj q1hq q1hr q1hs q1ht qrk q1hu q1hv q1r qc qrl q4u q6 qa q1hw q6n q1hx q4v qei q1hy q1hz q1i0
 simp only[SB,SX,inIx,reduceCtorEq,Int.reduceToNat]
 simp only[oR,z9i hs.r8]
 have h1:=hs.thr
 refine⟨ze9 _ _ h1 hs.r8,fun h=>?_,fun h=>⟨z16e p b id fn arg hp hid,fun h2=>?_,fun h2=>⟨⟨0,⟨by omega,⟨by omega,h2⟩,fun j hj=>by omega⟩,rfl⟩,fun i hi=>⟨by omega,fun hc=>⟨za (by omega) (by omega),i+1,⟨by omega,⟨by omega,h2⟩,fun j hj=>?_⟩,by omega,by omega⟩,fun hc=>?_⟩⟩⟩⟩
 . have e:z1h p b s id fn arg=(c0st,30):=by unfold z1h;rw[if_pos h]
   rw[e];exact⟨⟨⟨rfl,zMem⟩,rfl⟩,rfl⟩
 . have e:z1h p b s id fn arg=(c0st,30):=by unfold z1h;rw[if_neg h,if_pos h2]
   rw[e];exact⟨⟨⟨rfl,zMem⟩,rfl⟩,rfl⟩
 . by_cases e:j=i
   . subst e;exact hc.2
   . exact hi.2.2 j (by omega)
 . have e:z1h p b s id fn arg=({s with thr:=insT s.thr (newT p b id fn arg).1 (posT s.thr id)},0):=by unfold z1h;rw[if_neg h,if_neg (by simp[h2])]
   have hat:posT s.thr id=i:=z12i _ _ _ hi.1 hi.2.2 fun hlt=>by rcases hc with hc |hc;exact absurd hlt hc;exact hc
   have hl:=z9q s.thr (newT p b id fn arg).1 i hi.1
   have n1:((s.thr.length:Int)+1).toNat=s.thr.length+1:=by omega
   have n2:((i:Int)+1).toNat=i+1:=by omega
   have n3:min ((s.thr.length:Int) - (i:Int)).toNat (((s.thr.length+1:Nat):Int) - ((i:Int)+1)).toNat=s.thr.length - i:=by omega
   have n4:min i (s.thr.length+1)=i:=by omega
   rw[e,hat]
   simp only[n1,n2,n3,n4]
   refine⟨by omega,za (by omega) (by omega),⟨by omega,by omega,by omega,by omega⟩,⟨by omega,hi.1⟩,by omega,by omega,by omega,za (by omega) (by omega),⟨by omega,by omega⟩,hi.1,⟨by omega,by omega⟩,⟨⟨hl.symm,⟨trivial,fun _ _=>trivial⟩,⟨trivial,fun _ _=>trivial⟩,⟨trivial,fun _ _=>trivial⟩,trivial,fun _ _=>trivial⟩,trivial⟩,hl.symm,fun j hj=>by rw[zue _ _ _ _ _ hi.1,if_pos hj]⟩
abbrev KEnq:Prop:=∀ (m:Mem) (c id:Int),MSm m ->KN 197 [vM m, .int .i64 c, .int .i64 id] (.tup [vM (enqM m c id).1, .int .i64 (enqM m c id).2])
theorem zhr (n:Nat):MSm c0m/\(allI c0m).length<=n:=⟨⟨by decide,by decide,by decide,by decide,by decide⟩,Nat.zero_le _⟩
theorem zd6 {m:Mem} (hm:MSm m) (i id fr to:Int):MSm (ownM m i id fr to).1/\(allI (ownM m i id fr to).1).length<=(allI m).length:=by
 unfold ownM
 split
 . exact zhr _
 . split
   . exact zhr _
   . split
     . exact zhr _
     . exact⟨⟨hm.vars,by simpa using hm.owners,hm.queues,hm.sig,hm.all⟩,Nat.le_refl _⟩
section
variable (m:Mem) (e:Ev)
def q1i1:=KN 185 [AV.mc zm (encM m),AV.int j6 e.obj,AV.int j6 e.wrote] (AV.tup [AV.mc zm (encM (zr (dM (encM m)) e.obj e.wrote).fst),AV.int j6 (zr (dM (encM m)) e.obj e.wrote).snd])
end
section
variable (m:Mem) (t:Thr) (i:Inst) (e:Ev)
def qrm:=LS (encM (zr (dM (encM m)) e.obj e.wrote).fst) (encM (effM m t i e).fst)
def qj2:Int:=(effM m t i e).snd.fst
def q1i2:=1=qj2 m t i e
def q3s:Int:=(effM m t i e).snd.snd
def qrn:=(zr (dM (encM m)) e.obj e.wrote).snd=q3s m t i e
def q1i3:=e.read=qj2 m t i e
def q3t:=0=qj2 m t i e
def qro:=LS (encM m) (encM (effM m t i e).fst)
def qrp:=0=q3s m t i e
def q1i4:=qro m t i e/\q1i3 m t i e/\qrp m t i e
def q1i5:=(e.kind==1)=true
def q1i6:=qro m t i e/\q3t m t i e/\qrp m t i e
def q1i7:List AV:=[AV.int j6 e.obj,AV.int j6 t.id]
def q1i8:List AV:=AV.mc zm (encM m)::q1i7 t e
def q1i9:Mem×Int:=ownM (dM (encM m)) e.obj t.id (-1) t.id
def q1ia:=encM (q1i9 m t e).fst
def q1ib:Int:=(q1i9 m t e).snd
def q1ic:=KN 195 (q1i8 m t e) (AV.tup [AV.mc zm (q1ia m t e),AV.int j6 (q1ib m t e)])
def q1id:=LS (q1ia m t e) (encM (effM m t i e).fst)
def q1ie:=q1ib m t e=q3s m t i e
def q1if:Mem×Int:=ownM (dM (encM m)) e.obj t.id t.id (-1)
def q1ig:=encM (q1if m t e).fst
def q1ih:Int:=(q1if m t e).snd
def q1ii:Mem×Int:=ownM (dM (encM m)) e.mutex t.id t.id (-1)
def qrq:=encM (q1ii m t e).fst
def q1ij:=AV.mc zm (qrq m t e)
def qrr:Int:=(q1ii m t e).snd
def q1ik:Mem×Int:=enqM (dM (qrq m t e)) e.obj t.id
def q1il:=encM (q1ik m t e).fst
def q1im:Int:=(q1ik m t e).snd
def q1in:=qrr m t e==0
def qej:List AV:=[AV.mc zm (encM m),AV.int j6 e.obj]
def qek:=encM (zi (dM (encM m)) e.obj 1).fst
def qj3:Int×Int:=(zi (dM (encM m)) e.obj 1).snd
def qel:Int:=(qj3 m e).snd
def qrs:Mem×Int×Int:=zi (dM (encM m)) e.obj (z1z (dR (dR dI) (rowQ m.queues)))
def qem:=encM (qrs m e).fst
def qj4:Int×Int:=(qrs m e).snd
def qen:Int:=(qj4 m e).snd
def q1io:=((e.kind==11)=true->((e.read==0)=true->q1i6 m t i e)/\((e.read==0)=false->q1ic m t e/\q1id m t i e/\q1i2 m t i e/\q1ie m t i e))/\((e.kind==11)=false->((e.kind==9)=true->q1ic m t e/\q1id m t i e/\q3t m t i e/\q1ie m t i e)/\((e.kind==9)=false->((e.kind==10)=true->KN 196 (q1i8 m t e) (AV.tup [AV.mc zm (q1ig m t e),AV.int j6 (q1ih m t e)])/\LS (q1ig m t e) (encM (effM m t i e).fst)/\q3t m t i e/\q1ih m t e=q3s m t i e)/\((e.kind==10)=false->((e.kind==12)=true->KN 196 [AV.mc zm (encM m),AV.int j6 e.mutex,AV.int j6 t.id] (AV.tup [q1ij m t e,AV.int j6 (qrr m t e)])/\(q1in m t e=true->KN 197 (q1ij m t e::q1i7 t e) (AV.tup [AV.mc zm (q1il m t e),AV.int j6 (q1im m t e)])/\LS (q1il m t e) (encM (effM m t i e).fst)/\q3t m t i e/\q1im m t e=q3s m t i e)/\(q1in m t e=false->LS (qrq m t e) (encM (effM m t i e).fst)/\q3t m t i e/\qrr m t e=q3s m t i e))/\((e.kind==12)=false->((e.kind==13)=true->KN 198 [AV.mc zm (encM m),AV.int j6 t.id] (AV.tup [AV.mc zm (encM (z1s (dM (encM m)) t.id).fst),AV.int j6 (z1s (dM (encM m)) t.id).snd])/\LS (encM (z1s (dM (encM m)) t.id).fst) (encM (effM m t i e).fst)/\q3t m t i e/\(z1s (dM (encM m)) t.id).snd=q3s m t i e)/\((e.kind==13)=false->((e.kind==14)=true->KN 199 (qej m e) (AV.tup [AV.mc zm (qek m e),AV.int j6 (qj3 m e).fst,AV.int j6 (qel m e)])/\LS (qek m e) (encM (effM m t i e).fst)/\q3t m t i e/\qel m e=q3s m t i e)/\((e.kind==14)=false->((e.kind==15)=true->KN 200 (qej m e) (AV.tup [AV.mc zm (qem m e),AV.int j6 (qj4 m e).fst,AV.int j6 (qen m e)])/\LS (qem m e) (encM (effM m t i e).fst)/\q3t m t i e/\qen m e=q3s m t i e)/\((e.kind==15)=false->((e.kind==16)=true->qro m t i e/\e.obj=qj2 m t i e/\qrp m t i e)/\((e.kind==16)=false->q1i6 m t i e))))))))
def q1ip:=(e.kind==1)=false
end
theorem z1gn (m:Mem) (t:Thr) (i:Inst) (e:Ev) (hm:MSm m) (hE:KEnq):KN 115 [vM m,vT t,vI i,vEv e] (.tup [vM (effM m t i e).1, .int .i64 (effM m t i e).2.1, .int .i64 (effM m t i e).2.2]):=by
 refine Kn (vMa 132 fun _=>none) Tryz.func115 (((e.kind==5)=true->q1i1 m e/\((i.op==12)=true->qrm m t i e/\q1i2 m t i e/\qrn m t i e)/\((i.op==12)=false->qrm m t i e/\q1i3 m t i e/\qrn m t i e))/\((e.kind==5)=false->((e.kind==2)=true->q1i1 m e/\qrm m t i e/\q3t m t i e/\qrn m t i e)/\((e.kind==2)=false->(q1i5 e->(q1i5 e->q1i4 m t i e)/\(q1ip e->q1io m t i e))/\(q1ip e->((e.kind==8)=true->q1i4 m t i e)/\((e.kind==8)=false->q1io m t i e))))) ?_
 try delta q1i1 qrm qj2 q1i2 q3s qrn q1i3 q3t qro qrp q1i4 q1i5 q1i6 q1i7 q1i8 q1i9 q1ia q1ib q1ic q1id q1ie q1if q1ig q1ih q1ii qrq q1ij qrr q1ik q1il q1im q1in qej qek qj3 qel qrs qem qj4 qen q1io q1ip
 simp only[SB,inIx,reduceCtorEq,Int.reduceToNat]
 have L:∀ {x:Mem} {u v:Int},effM m t i e=(x,u,v) ->LS (encM x) (encM (effM m t i e).1)/\u=(effM m t i e).2.1/\v=(effM m t i e).2.2:=fun h=>by rw[h];exact⟨z34 rfl,rfl,rfl⟩
 refine⟨fun h5=>⟨zjb _ _ _ hm,fun h=>L ?_,fun h=>L ?_⟩,fun h5=>⟨fun h2=>⟨zjb _ _ _ hm,L ?_⟩,fun h2=>⟨fun h1=>⟨fun _=>L ?_, ?_⟩,fun h1=>⟨fun h8=>L ?_,fun h8=>⟨fun h11=>⟨fun h=>L ?_,fun h=>⟨z17a _ _ _ hm,L ?_⟩⟩,fun h11=>⟨fun h9=>⟨z17a _ _ _ hm,L ?_⟩,fun h9=>⟨fun h10=>⟨z17b _ _ _ hm,L ?_⟩,fun h10=>⟨fun h12=>⟨z17b _ _ _ hm,fun h=>⟨hE _ _ _ (zd6 hm _ _ _ _).1,L ?_⟩,fun h=>L ?_⟩,fun h12=>⟨fun h13=>⟨z17d _ _ hm,L ?_⟩,fun h13=>⟨fun h14=>⟨z1f0 _ _ hm,L ?_⟩,fun h14=>⟨fun h15=>⟨z1f2 _ _ hm,L ?_⟩,fun h15=>⟨fun h16=>L ?_,fun h16=>L ?_⟩⟩⟩⟩⟩⟩⟩⟩⟩⟩⟩⟩
 rotate_left 4
 . intro h;exact(h h1).elim
 all_goals clear L hE hm
 all_goals simp only[effM, *,reduceIte,Int.reduceEq,or_true,true_or,or_self,ne_eq,not_false_eq_true,not_true_eq_false]
theorem zm1 (l:List Thr) (id:Int):∀ n,n<=l.length ->0<=fidR l id n ->(fidR l id n).toNat<l.length/\(l.getD (fidR l id n).toNat c0t).id=id
 |0,_,h=>absurd (show(0:Int)<= -1 from h) (by decide)
 |n+1,hn,h=>by
  unfold fidR at h ⊢
  split at h
  . rename_i e;rw[if_pos e,Int.toNat_natCast];exact⟨by omega,e⟩
  . rename_i e;rw[if_neg e];exact zm1 l id n (by omega) h
theorem z4h {l:List Thr} {id:Int} (h:0<=fid l id):(fid l id).toNat<l.length/\(l.getD (fid l id).toNat c0t).id=id:=zm1 l id _ (Nat.le_refl _) h
theorem zrb (l:List Thr) (id:Int) (k:Nat) (hk:k<l.length) (e:(l.getD k c0t).id=id):∀ n,n<=l.length ->l.length - n<=k ->0<=fidR l id n
 |0,_,h=>by omega
 |n+1,hn,h=>by
  unfold fidR
  split
  . omega
  . rename_i hne
    refine zrb l id k hk e n (by omega) ?_
    rcases Nat.lt_or_ge k (l.length - n)with h1 |h1
    . have :k=l.length - (n+1):=by omega
      subst this;exact absurd e hne
    . exact h1
theorem zm2 {l:List Thr} {id:Int} {k:Nat} (hk:k<l.length) (e:(l.getD k c0t).id=id):0<=fid l id:=zrb l id k hk e _ (Nat.le_refl _) (by omega)
theorem zrc {l:List Thr} {id:Int} (t:Thr) {n:Nat} (hn:n<=l.length) (h:0<=fid l id):0<=fid (insT l t n) id:=by
 obtain⟨h1,h2⟩:=z4h h
 have hl:=z9q l t n hn
 by_cases hk:(fid l id).toNat<n
 . exact zm2 (k:=(fid l id).toNat) (by omega) (by rw[z9r _ _ _ hn,if_pos hk];exact h2)
 . exact zm2 (k:=(fid l id).toNat+1) (by omega) (by rw[z9r _ _ _ hn,if_neg (by omega),if_neg (by omega),Nat.add_sub_cancel];exact h2)
theorem zm3 (l:List (List Int)):∀ (i:Nat) (v:List Int),i<l.length ->(l.set i v).flatten.length+(l.getD i []).length=l.flatten.length+v.length:=by
 induction l with
 |nil=>intro i v h;simp at h
 |cons x l ih=>
  intro i v h
  cases i with
  |zero=>simp only[List.set_cons_zero,List.flatten_cons,List.length_append,List.getD_cons_zero];omega
  |succ i=>
   have :=ih i v (by simpa using h)
   simp only[List.set_cons_succ,List.flatten_cons,List.length_append,List.getD_cons_succ];omega
theorem z7v (m:Mem):(allI m).length=m.sig.length+m.queues.flatten.length:=by unfold allI;rw[List.length_append]
def Msz (m m':Mem):Prop:=MSm m'/\(allI m').length<=(allI m).length+1
theorem zax (m:Mem):Msz m c0m:=⟨(zhr 0).1,(zhr _).2⟩
theorem zhs {m:Mem} (hm:MSm m) (x v:Int):Msz m (zr m x v).1:=by
 unfold zr
 split
 . exact zax m
 . split
   . exact zax m
   . exact⟨⟨by simpa using hm.vars,hm.owners,hm.queues,hm.sig,hm.all⟩,Nat.le_succ _⟩
theorem z12j {m:Mem} (hm:MSm m) (i id fr to:Int):Msz m (ownM m i id fr to).1:=⟨(zd6 hm i id fr to).1,Nat.le_succ_of_le (zd6 hm i id fr to).2⟩
theorem z12k {m:Mem} (hm:MSm m) (h:(allI m).length<400000) (c id:Int):Msz m (enqM m c id).1:=by
 unfold enqM
 split
 . exact zax m
 . rename_i hi
   split
   . exact zax m
   . split
     . exact zax m
     . have hc:=z6m (Decidable.not_not.1 hi)
       have h2:=zm3 m.queues c.toNat (m.queues.getD c.toNat []++[id]) (by omega)
       have h3:=z7v m
       have h4:=z7v {m with queues:=m.queues.set c.toNat (m.queues.getD c.toNat []++[id])}
       simp only[List.length_append,List.length_cons,List.length_nil]at h2 h4
       suffices h:Msz m {m with queues:=m.queues.set c.toNat (m.queues.getD c.toNat []++[id])}from h
       exact⟨⟨hm.vars,hm.owners,by simpa using hm.queues,hm.sig,by omega⟩,by omega⟩
theorem zuf {m:Mem} (hm:MSm m) (id:Int):Msz m (z1s m id).1:=by
 unfold z1s
 split
 . exact zax m
 . split
   . exact zax m
   . have h1:(remI m.sig id).length<=m.sig.length:=zj5 _ _
     have h2:=hm.sig
     have h3:=hm.all
     have h4:=z7v m
     have h5:=z7v {m with sig:=remI m.sig id}
     simp only at h5
     suffices h:Msz m {m with sig:=remI m.sig id}from h
     exact⟨⟨hm.vars,hm.owners,hm.queues,by show(remI m.sig id).length<=_;omega,by omega⟩,by omega⟩
theorem zrd {m:Mem} (hm:MSm m) (c n:Int):Msz m (zi m c n).1:=by
 unfold zi
 split
 . exact zax m
 . rename_i hi
   have hc:=z6m (Decidable.not_not.1 hi)
   generalize (min n ((m.queues.getD c.toNat []).length:Int)).toNat=k
   have h1:=zle ((m.queues.getD c.toNat []).take k) m.sig
   have h2:=zm3 m.queues c.toNat ((m.queues.getD c.toNat []).drop k) (by omega)
   have h3:=z7v m
   have h4:=z7v (zdi m c.toNat k)
   have h5:=hm.all
   unfold zdi at h4 ⊢
   simp only[List.length_take,List.length_drop]at h1 h2 h4
   suffices h:Msz m {m with sig:=((m.queues.getD c.toNat []).take k).foldl addI m.sig,queues:=m.queues.set c.toNat ((m.queues.getD c.toNat []).drop k)}from h
   refine⟨⟨hm.vars,hm.owners,by simpa using hm.queues, ?_,by omega⟩,by omega⟩
   show(((m.queues.getD c.toNat []).take k).foldl addI m.sig).length<=_
   omega
theorem zre {m:Mem} (hm:MSm m) (h:(allI m).length<400000) (t:Thr) (i:Inst) (e:Ev):Msz m (effM m t i e).1:=by
 have refl:Msz m m:=⟨hm,Nat.le_succ _⟩
 unfold effM
 repeat' split
 all_goals first
  |exact refl
  |exact zhs hm _ _
  |exact z12j hm _ _ _ _
  |exact zuf hm _
  |exact zrd hm _ _
  |skip
 have h2:=zd6 hm e.mutex t.id t.id (-1)
 have :=z12k h2.1 (by omega) e.obj t.id
 exact⟨this.1,Nat.le_trans this.2 (by omega)⟩
theorem zug (s:SState) (t:Thr) (i:Inst) (e:Ev):(accE s t i e).kind≠16:=by
 unfold accE
 simp only
 repeat' split
 all_goals simp
theorem zrf (t:Thr) (i:Inst) (e:Ev):(z3z t i e).kind≠16:=by
 unfold z3z
 repeat' split
 all_goals simp
theorem z9s {s:SState} {t:Thr} {i:Inst} (h:(labE s t i).kind=16):i.op=21/\(labE s t i).obj=z1o t:=by
 by_cases h21:i.op=21
 . exact⟨h21,by simp[labE,h21]⟩
 . exfalso
   revert h
   unfold labE
   repeat' split
   all_goals first
    |exact zrf _ _ _
    |exact zug _ _ _ _
    |contradiction
    |simp
theorem z9t (t:Thr):z1o t<=1000000:=by
 unfold z1o
 split
 . rename_i h
   unfold chB2 at h
   simp only[Bool.not_eq_true',Bool.or_eq_false_iff,decide_eq_false_iff_not]at h
   have :=z6j (id:=t.id) (by omega)
   omega
 . decide
theorem zji {p:PProg} {b id fn arg:Int} (hp:PSm p) (hid:id<=9223372036854775807):TOK (newT p b id fn arg).1:=by
 unfold newT
 split
 . exact z6s
 . rename_i h
   split
   . exact z6s
   . split
     . exact z6s
     . rename_i h3
       split
       . exact z6s
       . exact(zjc ⟨hp,(z48 (Decidable.not_not.1 h)).1⟩ (zfj hid (by omega))).ok
theorem zm4 {p:PProg} {b:Int} {t:Thr} {r:Int} (hp:PSm p) (ht:TOK t):TOK (z15 p b t r).1:=by
 unfold z15
 split
 . exact z6s
 . rename_i h
   split
   . exact z6s
   . rename_i hv
     split
     . exact z6s
     . rename_i hs
       split
       . exact z6s
       . have P:POk p:=⟨hp,(z48 (Decidable.not_not.1 h)).1⟩
         exact(zjc P (zj7 P ht (by simpa using hv) (Decidable.not_not.1 hs) r)).ok
theorem zjj {l:List Thr} {t:Thr} {k:Nat} (hk:k<=l.length) (h:∀ j,TOK (l.getD j c0t)) (ht:TOK t) (j:Nat):TOK ((insT l t k).getD j c0t):=by
 rw[z9r _ _ _ hk]
 split
 . exact h j
 . split
   . exact ht
   . exact h _
theorem zfy {l:List Thr} {t:Thr} {k:Nat} (h:∀ j,TOK (l.getD j c0t)) (ht:TOK t) (j:Nat):TOK ((l.set k t).getD j c0t):=by
 rw[List.getD_eq_getElem?_getD,List.getElem?_set]
 split
 . split
   . exact ht
   . exact z6s
 . rw[<- List.getD_eq_getElem?_getD];exact h j
def vCl0 (s:SState):AV:= .mc stSh (.agg [.own 0 s.thr.length,encM s.mem,zud])
def stT (p:PProg) (s:SState) (a:Int):Thr:=(runS p s a).1
def stI (p:PProg) (s:SState) (a:Int):Inst:=(runS p s a).2.1
def stE (p:PProg) (s:SState) (a:Int):Ev:=labE s (stT p s a) (stI p s a)
def stX (p:PProg) (s:SState) (a:Int):Mem×Int×Int:=effM s.mem (stT p s a) (stI p s a) (stE p s a)
def stW (p:PProg) (b:Int) (s:SState) (a:Int):SState×Int:=z1h p b ⟨s.thr,(stX p s a).1,[]⟩ (stE p s a).obj (stI p s a).obj (regD (stT p s a) (stI p s a).b)
def stN (p:PProg) (b:Int) (s:SState) (a:Int):Thr×Int:=z15 p b (stT p s a) (stX p s a).2.1
def oSm (p:PProg) (b:Int) (s:SState) (a:Int):FuncId ->List AV ->Option AV
 |111,_=>some (.int .i64 (stdE p b))
 |103,_=>some (.bool (valS p b s))
 |112,_=>some (.tup [vT (stT p s a),vI (stI p s a), .bool (runS p s a).2.2])
 |105,_=>some (.bool (z20 s (stT p s a) (stI p s a)))
 |113,_=>some (vEv (stE p s a))
 |114,_=>some (vCl0 s)
 |115,_=>some (.tup [vM (stX p s a).1, .int .i64 (stX p s a).2.1, .int .i64 (stX p s a).2.2])
 |116,_=>some (vM (stX p s a).1)
 |118,_=>some (.tup [vT (stN p b s a).1, .int .i64 (stN p b s a).2])
 |119,[.seq _ n f, .int _ i]=>some (.tup [.int .i64 (max (fid (dR dT (.seq zk n f)) i) 0), .bool (decide (0<=fid (dR dT (.seq zk n f)) i))])
 |_,_=>none
noncomputable def z1ap (p:PProg) (b:Int) (s:SState) (a:Int) (n:Nat):Cfg:={cfgS n with
 fresh:=fun f _=>match Nat.beq f 114 with |true=>some [tBox s.thr] |false=>none,
 mkr:=fun _ _=>some (.tup [vSpO (stW p b s a).1, .int .i64 (stW p b s a).2],tBox (stW p b s a).1.thr),isMk:=fun f _=>Nat.beq f 117}
theorem zuh (p:PProg) (b:Int) (s:SState) (a:Int) (n:Nat):z1d (z1ap p b s a n):=z3g (by kernel_rfl)
noncomputable def vSm (p:PProg) (b:Int) (s:SState) (a:Int) (n:Nat):VCtx:={C:=z1ap p b s a n,CC:=Known Tryz.prog GG,orc:=fun _ _=>oSm p b s a,inv:=fun _=>none,fz:=fun k=>match Nat.beq k 16 with |true=>[258048] |false=>[]}
noncomputable def zyc (n:Nat):Cfg:={cfgM n fun _ _=>false with capB:=fun d=>Nat.beq d 42}
theorem zrg (n:Nat):z1d (zyc n):=z3g (by kernel_rfl)
noncomputable def vMcE (n:Nat) (inv:Nat ->Option Inv):VCtx:={C:=zyc n,CC:=Known Tryz.prog GG,orc:=fun _ _=>spMc,inv:=inv}
def zyd (s:SState) (k:Nat):Option Inv:=match Nat.beq k 5 with
 |true=>iv s.thr.length fun i=>⟨[(1, .ptr 1 []),(2, .ptr 2 []),(3, .ptr 3 []),(22, .int .i64 s.thr.length),(23, .int .i64 i)],[(1,z2z s),(2,z2z c0st),(3, .cell 41 stSh (.agg [.own 13 s.thr.length,encM s.mem, .nils])),(13,tBox s.thr)]⟩
 |false=>match Nat.beq k 12 with
  |true=>iv s.bufs.length fun i=>⟨[(1, .ptr 1 []),(2, .ptr 2 []),(3, .ptr 3 []),(51, .int .i64 s.bufs.length),(52, .int .i64 i)],[(1,z2z s),(2,z2z c0st),(3, .cell 41 stSh (.agg [.own 13 s.thr.length,encM s.mem, .ownx 42 0 s.bufs.length true])),(13,tBox s.thr),(42,bBox s.bufs)]⟩
  |false=>none
end
end Go.Proofs.S25
