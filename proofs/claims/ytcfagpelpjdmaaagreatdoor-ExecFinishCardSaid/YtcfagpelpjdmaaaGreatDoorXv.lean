import Derived.Test.YtcfagpelpjdmaaaGreatDoorXu
import Derived.Test.YtcfagpelpjdmaaaGreatDoorXo
import Derived.WalkKit
import Derived.Lib.Walk
import Derived.Lib.SliceRun
import Derived.Deep.LoopGhost
namespace Go.Proofs.S25
open Go Go.AV
open Go.IntKind renaming i64 -> j6
open Go.AV.Shape (leaf)
noncomputable section
theorem z21 (b:Buf):vldB b=true↔(0<=b.thread/\0<=b.first/\b.first<=32/\b.first+b.entries.length<=32)/\∀ i,i<b.entries.length ->z80 (b.entries.getD i c0e)=true:=by
 rw[<- z2d]
 simp[vldB,and_assoc]
section
variable (e:BEnt)
def q1ba:=decide (0<=e.var)
def q1bb:=q1ba e=true
def qpz:=q1bb e->q1bb e
def q1bc:=q1ba e&&decide (e.var<8)
def q1bd:=q1bc e=true
def qq0:=q1bd e->q1bd e
def q1be:=q1bc e&&decide (-2147483648<=e.val)
def q1bf:=q1be e=true
def qq1:=q1bf e->q1bf e
end
theorem z1fw (e:BEnt):KN 237 [vEn e] (.bool (z80 e)):=by
 refine Kn (vB4 21 fun _=>none) Tryz.func237 (qpz e/\qpz e/\qpz e/\qq0 e/\qq0 e/\qq0 e/\qq1 e/\qq1 e/\qq1 e/\(q1be e&&decide (e.val<=2147483647))=z80 e) ?_
 try delta q1ba q1bb qpz q1bc q1bd qq0 q1be q1bf qq1
 simp only[SB,SX,inIx,reduceCtorEq,Int.reduceToNat]
 simp[z80]
section
variable (b:Buf)
def qq2:=decide (b.thread<0)
def qq3:=(!qq2 b)=true
def q6a:=qq3 b->qq3 b
def qq4:=qq2 b||decide (b.first<0)
def qq5:=(!qq4 b)=true
def q6b:=qq5 b->qq5 b
def qih:=qq4 b||decide (32<b.first)
def q6c:=(!qih b)=true
def q1k:=q6c b->q6c b
def q2n:=↑b.entries.length<=(9223372036854775807:Int)
def q1bg:=qih b||decide (32 - b.first<↑b.entries.length)
variable (x1:Nat)
def q6d:=x1<=b.entries.length/\∀ j:Nat,j<x1->z80 (b.entries.getD j c0e)=true
def q1bh:=z80 (dE (encE (b.entries.getD (↑x1:Int).toNat c0e)))
def q1bi:=!q1bh b x1
def qda:=decide ((↑x1:Int)<(↑b.entries.length:Int))
end
theorem zty (b:Buf) (hn:b.entries.length<=1000000):KN 171 [vB b] (.bool (vldB b)):=by
 refine Kn (vB4 38 (z18k b)) Tryz.func171 (q6a b/\q6a b/\q6a b/\q6b b/\q6b b/\q6b b/\q1k b/\q1k b/\(q6c b->q2n b)/\q1k b/\q1k b/\(q6c b->InR j6 (32 - b.first))/\q1k b/\q1k b/\q1k b/\(q1bg b=true->false=vldB b)/\(q1bg b=false->q2n b/\(∃ i,q6d b i/\(LT (rowE b.entries)/\RR (↑b.entries.length:Int)/\0=(↑i:Int))/\LT (encB b))/\∀ i:Nat,q6d b i->(qda b i=true->inIx (↑i) b.entries.length/\KN 237 [AV.mc z16 (encE (b.entries.getD (↑i:Int).toNat c0e))] (AV.bool (q1bh b i))/\(q1bi b i=true->false=vldB b)/\(q1bi b i=false->InR j6 (q6 i)/\(∃ j,q6d b j/\b.entries.length - j<b.entries.length - i/\(LT (rowE b.entries)/\RR (↑b.entries.length:Int)/\q6 i=(↑j:Int))/\LT (encB b))))/\(qda b i=false->true=vldB b))) ?_
 try delta qq2 qq3 q6a qq4 qq5 q6b qih q6c q1k q2n q1bg q6d q1bh q1bi q6 qda
 simp only[SB,SX,inIx,reduceCtorEq,Int.reduceToNat]
 refine⟨fun _=>by omega,fun h=>za (by omega) (by omega),fun h=>?_,fun h=>⟨by omega,⟨0,⟨by omega,fun j hj=>by omega⟩,rfl⟩,fun i hi=>⟨fun hlt=>⟨hlt,z1fw _,fun hf=>?_,fun ht=>⟨za (by omega) (by omega),i+1,⟨by omega,fun j hj=>?_⟩,by omega,by omega⟩⟩,fun hge=>?_⟩⟩⟩
 . exact f_eq fun hv=>by have :=((z21 b).1 hv).1;omega
 . exact f_eq fun hv=>by have :=((z21 b).1 hv).2 i (by omega);rw[this]at hf;cases hf
 . by_cases e:j=i
   . subst e;exact ht
   . exact hi.2 j (by omega)
 . exact((z21 b).2 ⟨by omega,fun j hj=>hi.2 j (by omega)⟩).symm
section
variable (b:Buf)
def q1br:=(↑b.entries.length:Int).toNat<=(↑b.entries.length:Int).toNat
end
theorem zlp (b:Buf) (hn:b.entries.length<=1000000):KN 242 [vB b] (vB b):=by
 refine Kn (vB4 15 fun _=>none) Tryz.func242 (q2n b/\((0:Int)<=↑b.entries.length/\(↑b.entries.length:Int)<=(↑b.entries.length:Int)/\↑(16:Nat)*↑b.entries.length<=(140737488355328:Int)/\q2n b)/\(q1br b/\(↑(↑b.entries.length:Int).toNat:Int)<=9223372036854775807)/\q1br b/\RR b.thread/\RR b.first/\(↑b.entries.length:Int).toNat=b.entries.length/\∀ i:Nat,i<(↑b.entries.length:Int).toNat->(if i<min b.entries.length (↑b.entries.length:Int).toNat then encE (b.entries.getD i c0e)else AV.agg [AV.int j6 0,AV.int j6 0])=encE (b.entries.getD i c0e)) ?_
 try delta q2n q1br
 simp only[SB,SX,inIx,reduceCtorEq,Int.reduceToNat]
 refine⟨by omega,⟨by omega,by omega⟩,by omega,fun i hi=>by rw[if_pos (by omega)]⟩
theorem appE (l:List BEnt) (x v:Int) (j:Nat) (hj:j<l.length+1):(if j<l.length then encE (l.getD j c0e)else((List.replicate 1 (AV.agg [.int .i64 0, .int .i64 0])).set 0 (AV.agg [.int .i64 x, .int .i64 v])).getD (j - l.length) AV.any)=encE ((l++([⟨x,v⟩]:List BEnt)).getD j c0e):=
 z4g encE _ c0e l ⟨x,v⟩ j hj
section
variable (b:Buf) (x:Int) (v:Int)
def q3p:=0=(z19 b x v).fst.thread/\0=(z19 b x v).fst.first/\(z19 b x v).fst.entries.length=0
def q3q:=0=(z19 b x v).snd.fst
def q1yi:=decide (x<0)
def qq9:=(!q1yi x)=true
def qdb:=qq9 x->qq9 x
def qdc:=q1yi x||decide (8<=x)
def q8g:Int:=b.first+↑b.entries.length
def q1bs:=InR j6 (q8g b)
def qdd:=q8g b==32
def q1bt:Nat:=(↑b.entries.length - (0:Int)).toNat
def q8h:Nat:=q1bt b+1
def q30:List AV:=[AV.int j6 0,AV.int j6 0]
end
theorem z18q (b:Buf) (x v:Int) (hn:b.entries.length<=1000000):KN 186 [vB b, .int .i64 x, .int .i64 v] (.tup [vB (z19 b x v).1, .int .i64 (z19 b x v).2.1, .int .i64 (z19 b x v).2.2]):=by
 refine Kn (vB4 59 fun _=>none) Tryz.func186 (KN 171 [AV.mc z17 (encB b)] (AV.bool (vldB (dB (encB b))))/\((!vldB (dB (encB b)))=true->q3p b x v/\q3q b x v/\1=(z19 b x v).snd.snd)/\((!vldB (dB (encB b)))=false->qdb x/\qdb x/\(qdc x=true->q3p b x v/\q3q b x v/\11=(z19 b x v).snd.snd)/\(qdc x=false->q2i v/\q2i v/\(q2j v=true->q3p b x v/\q3q b x v/\2=(z19 b x v).snd.snd)/\(q2j v=false->q2n b/\q1bs b/\(qdd b=true->q3p b x v/\q3q b x v/\24=(z19 b x v).snd.snd)/\(qdd b=false->q2n b/\((0:Int)<=(0:Int)/\(0:Int)<=↑b.entries.length/\(↑b.entries.length:Int)<=(↑b.entries.length:Int)/\RR (↑b.entries.length:Int))/\1*z16.size<=16777216/\(0<1/\↑(q8h b)*↑(16:Nat)<=(140737488355328:Int)/\q8h b<=9223372036854775807)/\1<=1/\q1bs b/\q8h b<=q8h b/\(b.thread=(z19 b x v).fst.thread/\b.first=(z19 b x v).fst.first/\q8h b=(z19 b x v).fst.entries.length/\∀ i:Nat,i<q8h b->(if i<(↑b.entries.length - (0:Int)).toNat then encE (b.entries.getD (Int.toNat (0:Int)+i) c0e)else((List.replicate (1:Nat) (AV.agg q30)).set (0:Nat) (AV.agg ((q30.set (0:Nat) (strip1 (strip1 (AV.int j6 x)))).set (1:Nat) (strip1 (strip1 (AV.int j6 v)))))).getD (i - q1bt b) AV.any)=encE ((z19 b x v).fst.entries.getD i c0e))/\q8g b=(z19 b x v).snd.fst/\0=(z19 b x v).snd.snd))))) ?_
 try delta q3p q3q q1yi qq9 qdb qdc qc1 qc3 q2i q2j q2n q8g q1bs qdd q1bt q8h q30
 simp only[SB,SX,inIx,reduceCtorEq,Int.reduceToNat]
 refine⟨zty b hn,fun hv=>?_,fun hv=>?_⟩
 . have e:z19 b x v=(c0b,0,1):=by unfold z19;rw[if_pos hv]
   rw[e];exact⟨⟨rfl,rfl,rfl⟩,rfl,rfl⟩
 have hr:=((z21 b).1 hv).1
 refine⟨fun hx=>?_,fun hx=>⟨fun hx2=>?_,fun hx2=>⟨by omega,za (by omega) (by omega),fun hx3=>?_,fun hx3=>?_⟩⟩⟩
 . have e:z19 b x v=(c0b,0,11):=by unfold z19;rw[if_neg (by simp[hv]),if_pos (by omega)]
   rw[e];exact⟨⟨rfl,rfl,rfl⟩,rfl,rfl⟩
 . have e:z19 b x v=(c0b,0,2):=by unfold z19;rw[if_neg (by simp[hv]),if_neg (by omega),if_pos (by omega)]
   rw[e];exact⟨⟨rfl,rfl,rfl⟩,rfl,rfl⟩
 . have e:z19 b x v=(c0b,0,24):=by unfold z19;rw[if_neg (by simp[hv]),if_neg (by omega),if_neg (by omega),if_pos (by omega)]
   rw[e];exact⟨⟨rfl,rfl,rfl⟩,rfl,rfl⟩
 . have e:z19 b x v=(⟨b.thread,b.first,b.entries++[⟨x,v⟩]⟩,b.first+b.entries.length,0):=by unfold z19;rw[if_neg (by simp[hv]),if_neg (by omega),if_neg (by omega),if_neg (by omega)]
   rw[e]
   exact⟨by omega,by omega,by decide,⟨by omega,by omega,by omega⟩,za (by omega) (by omega),⟨rfl,rfl,by simp,fun j hj=>appE _ _ _ j hj⟩,rfl,rfl⟩
theorem z18r {b:Buf} (h:vldB b=false):popB b=(c0b,c0e,0,1):=by unfold popB;rw[if_pos h]
theorem z18s {b:Buf} (h:vldB b=true) (h0:b.entries.length=0):popB b=(c0b,c0e,0,5):=by unfold popB;rw[if_neg (by simp[h]),if_pos h0]
theorem z18t {b:Buf} (h:vldB b=true) (h0:b.entries.length≠0):popB b=(⟨b.thread,b.first+1,b.entries.drop 1⟩,b.entries.getD 0 c0e,b.first,0):=by unfold popB;rw[if_neg (by simp[h]),if_neg h0]
theorem zed {q:List BEnt} {j:Nat}:q.getD (1+j) c0e=(q.drop 1).getD j c0e:=by
 rw[List.getD_eq_getElem?_getD,List.getD_eq_getElem?_getD,List.getElem?_drop]
theorem zhk (q:List BEnt):((q.length:Int) - 1).toNat=(q.drop 1).length:=by rw[List.length_drop];omega
section
variable (b:Buf)
def qde:=0=(popB b).fst.thread/\0=(popB b).fst.first/\(popB b).fst.entries.length=0
def qqa:BEnt:=(popB b).snd.fst
def qii:Int:=(qqa b).var
def qij:Int:=(qqa b).val
def qdf:=0=qii b/\0=qij b
def qqb:Int×Int:=(popB b).snd.snd
def qik:Int:=(qqb b).fst
def qdg:=0=qik b
def q6e:Int:=(qqb b).snd
def qdh:=↑b.entries.length==(0:Int)
def q8i:Int:=b.first+1
def q1bu:=AV.int j6 (q8i b)
def q1bv:=AV.seq z16 (↑b.entries.length - (1:Int)).toNat fun i=>encE (b.entries.getD (Int.toNat (1:Int)+i) c0e)
def q1bw:=rowE (dR dE (q1bv b))
end
theorem z1fz (b:Buf) (hn:b.entries.length<=1000000):KN 184 [vB b] (.tup [vB (popB b).1,vEn (popB b).2.1, .int .i64 (popB b).2.2.1, .int .i64 (popB b).2.2.2]):=by
 refine Kn (vB4 38 fun _=>none) Tryz.func184 (KN 171 [AV.mc z17 (encB b)] (AV.bool (vldB (dB (encB b))))/\((!vldB (dB (encB b)))=true->qde b/\qdf b/\qdg b/\1=q6e b)/\((!vldB (dB (encB b)))=false->↑b.entries.length<=(9223372036854775807:Int)/\(qdh b=true->qde b/\qdf b/\qdg b/\5=q6e b)/\(qdh b=false->inIx 0 b.entries.length/\InR j6 (q8i b)/\((0:Int)<=(1:Int)/\(1:Int)<=↑b.entries.length/\(↑b.entries.length:Int)<=(↑b.entries.length:Int))/\KN 242 [AV.mc z17 (AV.agg [AV.int j6 b.thread,q1bu b,q1bv b])] (AV.mc z17 (AV.agg [AV.int j6 b.thread,q1bu b,q1bw b]))/\(b.thread=(popB b).fst.thread/\q8i b=(popB b).fst.first/\LS (q1bw b) (rowE (popB b).fst.entries))/\((b.entries.getD (Int.toNat 0) c0e).var=qii b/\(b.entries.getD (Int.toNat 0) c0e).val=qij b)/\b.first=qik b/\0=q6e b))) ?_
 try delta qde qqa qii qij qdf qqb qik qdg q6e qdh q8i q1bu q1bv q1bw
 simp only[SB,SX,inIx,reduceCtorEq,Int.reduceToNat]
 simp only[zed,zhk,rE,dR_E]
 refine⟨zty b hn,fun hv=>?_,fun hv=>⟨by omega,fun h0=>?_,fun h0=>?_⟩⟩
 . rw[z18r hv];exact⟨⟨rfl,rfl,rfl⟩,⟨rfl,rfl⟩,rfl,rfl⟩
 . rw[z18s hv (by omega)];exact⟨⟨rfl,rfl,rfl⟩,⟨rfl,rfl⟩,rfl,rfl⟩
 . have hr:=((z21 b).1 hv).1
   rw[z18t hv (by omega)]
   exact⟨⟨by omega,by omega⟩,za (by omega) (by omega),⟨by omega,by omega⟩,zlp ⟨b.thread,b.first+1,b.entries.drop 1⟩ (by rw[List.length_drop];omega),⟨rfl,rfl,rfl,fun _ _=>rfl⟩,⟨rfl,rfl⟩,rfl,rfl⟩
theorem zhl (b:Buf) (x:Int) (hv:vldB b=true):z2g b x=z8o b x b.entries.length:=by unfold z2g;rw[if_neg (by simp[hv])]
section
variable (b:Buf) (x:Int)
def qdi:=0=(z2g b x).fst/\0=(z2g b x).snd.fst/\false=(z2g b x).snd.snd
def qdj:Int:=↑b.entries.length - 1
variable (x2:Nat)
def q6f:=x2<=b.entries.length/\z8o b x b.entries.length=z8o b x x2
variable (x1:Nat)
def qdk:=inIx (qg x1) b.entries.length
def qdl:Int:=b.first+qg x1
def qil:BEnt:=b.entries.getD (qg x1).toNat c0e
def qdm:=(qil b x2).var==x
variable (x0:Nat)
def q4m:Int:=qg x0 - 1
def q4n:=decide ((0:Int)<=↑x0 - (1:Int))
end
theorem z18z (b:Buf) (x:Int) (hn:b.entries.length<=1000000):KN 268 [vB b, .int .i64 x] (.tup [.int .i64 (z2g b x).1, .int .i64 (z2g b x).2.1, .bool (z2g b x).2.2]):=by
 refine Kn (vB4 37 (ztx b x)) Tryz.func268 (KN 171 [AV.mc z17 (encB b)] (AV.bool (vldB (dB (encB b))))/\((!vldB (dB (encB b)))=true->qdi b x)/\((!vldB (dB (encB b)))=false->↑b.entries.length<=(9223372036854775807:Int)/\InR j6 (qdj b)/\(∃ i,q6f b x i/\(RR x/\qdj b=qg i)/\LT (encB b))/\∀ i:Nat,q6f b x i->(q4n i=true->qdk b i/\(qdm b x i=true->qdk b i/\InR j6 (qdl b i)/\(qil b i).val=(z2g b x).fst/\qdl b i=(z2g b x).snd.fst/\true=(z2g b x).snd.snd)/\(qdm b x i=false->InR j6 (q4m i)/\(∃ j,q6f b x j/\j<i/\(RR x/\q4m i=qg j)/\LT (encB b))))/\(q4n i=false->qdi b x))) ?_
 try delta qdi qdj q6f qg qdk qdl qil qdm q4m q4n
 simp only[SB,SX,inIx,reduceCtorEq,Int.reduceToNat]
 refine⟨zty b hn,fun hv=>?_,fun hv=>?_⟩
 . have e:z2g b x=(0,0,false):=by unfold z2g;rw[if_pos hv]
   rw[e];exact⟨rfl,rfl,rfl⟩
 have hr:=((z21 b).1 hv).1
 have hL:=zhl b x hv
 refine⟨by omega,za (by omega) (by omega),⟨_,⟨Nat.le_refl _,rfl⟩,rfl⟩,fun i hi=>⟨fun h0=>?_,fun h0=>?_⟩⟩
 . obtain⟨k,rfl⟩:∃ k,i=k+1:=⟨i - 1,by omega⟩
   have e:(((k+1:Nat):Int) - 1).toNat=k:=by omega
   rw[e,hL,hi.2]
   refine⟨⟨by omega,by omega⟩,fun hx=>⟨⟨by omega,by omega⟩,za (by omega) (by omega), ?_⟩,fun hx=>⟨za (by omega) (by omega),k,⟨by omega, ?_⟩,by omega,by omega⟩⟩
   . rw[z8o,if_pos hx]
     exact⟨rfl,by simp,rfl⟩
   . rw[z8o,if_neg hx]
 . obtain rfl:i=0:=by omega
   rw[hL,hi.2]
   exact⟨rfl,rfl,rfl⟩
section
variable (l:List Buf) (t:Int) (x2:Nat)
def q1r8:=x2<=l.length/\fib l t=fibR l t (l.length - x2)
def q1rc:=decide (0<=fib l t)
def q1rd:=(l.getD (↑x2:Int).toNat c0b).thread==t
variable (x1:Nat)
def q1r3:=decide ((↑x1:Int)<(↑l.length:Int))
end
theorem zql (l:List Buf) (t:Int) (hl:l.length<=1000000):KN 188 [rowB l, .int .i64 t] (.tup [.int .i64 (max (fib l t) 0), .bool (decide (0<=fib l t))]):=by
 refine Kn (vB4 21 (z18n l t)) Tryz.func188 (↑l.length<=(9223372036854775807:Int)/\(∃ i,q1r8 l t i/\RR t/\LT (rowB l)/\RR (↑l.length:Int)/\0=(↑i:Int))/\∀ i:Nat,q1r8 l t i->(q1r3 l i=true->inIx (↑i) l.length/\(q1rd l t i=true->↑i=max (fib l t) 0/\true=q1rc l t)/\(q1rd l t i=false->InR j6 (q6 i)/\(∃ j,q1r8 l t j/\l.length - j<l.length - i/\RR t/\LT (rowB l)/\RR (↑l.length:Int)/\q6 i=(↑j:Int))))/\(q1r3 l i=false->0=max (fib l t) 0/\false=q1rc l t)) ?_
 try delta q1r8 q1rc q1rd q6 q1r3
 simp only[SB,SX,inIx,reduceCtorEq,Int.reduceToNat]
 refine⟨by omega,⟨0,⟨by omega,by rw[Nat.sub_zero];rfl⟩,rfl⟩,fun i hi=>⟨fun hlt=>⟨hlt,fun h=>?_,fun h=>⟨za (by omega) (by omega),i+1,⟨by omega, ?_⟩,by omega,by omega⟩⟩,fun hge=>?_⟩⟩
 . have e:fib l t=i:=by rw[hi.2,zll l t i hlt,if_pos h]
   rw[e];exact⟨by omega,by simp⟩
 . rw[hi.2,zll l t i hlt,if_neg h]
 . have e:fib l t= -1:=by rw[hi.2,show l.length - i=0 from by omega];rfl
   rw[e];exact⟨rfl,rfl⟩
section
variable (l:List Buf)
def qqc:=↑l.length<=(9223372036854775807:Int)
variable (x1:Nat)
def q1bx:=Int.toNat 0=(List.take x1 l).length
def q1by:=AV.agg [AV.int j6 0,AV.int j6 0,AV.nils]
def q1r4:Nat:=(List.take x1 l).length+1
variable (x2:Nat)
def q1re:=q1r4 l x1=(List.take x2 l).length
end
theorem z11z (l:List Buf) (hl:l.length<=1000000) (he:∀ j,(l.getD j c0b).entries.length<=1000000):KN 187 [rowB l] (rowB l):=by
 refine Kn (vB4 22 (zxe l)) Tryz.func187 (qqc l/\((0:Int)<=(0:Int)/\(0:Int)<=↑l.length/\↑(40:Nat)*↑l.length<=(140737488355328:Int)/\qqc l)/\qqc l/\(∃ i,i<=l.length/\(q1bx l i/\LT (rowB l)/\RR (↑l.length:Int)/\0=(↑i:Int))/\q1bx l i/\∀ (i_1:Nat),i_1<Int.toNat 0->q1by=encB ((List.take i l).getD i_1 c0b))/\∀ i:Nat,i<=l.length->(q1r3 l i=true->inIx (↑i) l.length/\KN 242 [AV.mc z17 (encB (l.getD (↑i:Int).toNat c0b))] (AV.mc z17 (AV.agg [AV.int j6 (l.getD (↑i:Int).toNat c0b).thread,AV.int j6 (l.getD (↑i:Int).toNat c0b).first,rowE (dR dE (rowE (l.getD (↑i:Int).toNat c0b).entries))]))/\1*z17.size<=16777216/\(RR (List.take i l).length/\↑(q1r4 l i)*↑(40:Nat)<=(140737488355328:Int)/\q1r4 l i<=9223372036854775807)/\1<=1/\InR j6 (q6 i)/\(∃ j,j<=l.length/\l.length - j<l.length - i/\(q1re l i j/\LT (rowB l)/\RR (↑l.length:Int)/\q6 i=(↑j:Int))/\q1re l i j/\∀ (i_1:Nat),i_1<q1r4 l i->(if i_1<(List.take i l).length then encB ((List.take i l).getD i_1 c0b)else((List.replicate 1 q1by).set 0 (encB (dB (encB (l.getD (↑i:Int).toNat c0b))))).getD (i_1 - (List.take i l).length) AV.any)=encB ((List.take j l).getD i_1 c0b)))/\(q1r3 l i=false->(List.take i l).length<=(List.take i l).length/\LS (rowB (List.take i l)) (rowB l))) ?_
 try delta qqc q1bx q1by q1r4 q6 q1re q1r3
 simp only[SB,SX,inIx,reduceCtorEq,Int.reduceToNat]
 refine⟨by omega,⟨by omega,by omega,by omega⟩,by omega,⟨0,by omega,⟨rfl,rfl⟩,rfl,fun j hj=>by omega⟩,fun i hi=>⟨fun hlt=>?_,fun hge=>?_⟩⟩
 . have hn:(l.take i).length=i:=by rw[List.length_take];omega
   have e:l.take (i+1)=l.take i++[l.getD i c0b]:=by
    rw[List.take_add_one,List.getD_eq_getElem?_getD,List.getElem?_eq_getElem hlt];rfl
   refine⟨hlt,zlp _ (he i),by decide,⟨by omega,by omega⟩,za (by omega) (by omega),i+1,by omega,by omega, ?_, ?_⟩
   . rw[e];exact⟨by simp,by omega⟩
   . rw[e];exact⟨by simp,fun j hj=>z4g encB _ c0b _ _ j hj⟩
 . rw[List.take_of_length_le (by omega)];exact⟨rfl,fun _ _=>rfl⟩
def z191 (s:SState) (k:Nat):Option Inv:=match Nat.beq k 5 with
 |true=>iv s.thr.length fun i=>⟨[(4, .ptr 4 []),(6, .ptr 6 []),(21,rowT s.thr),(22, .int .i64 s.thr.length),(23, .int .i64 i)],[(4,z2z c0st),(6, .cell 41 stSh (.agg [rowT s.thr,encM s.mem, .own 33 i])),(33, .row 90 z17 i fun j=> .agg [.int .i64 (s.thr.getD j c0t).id, .int .i64 0, .nils])]⟩
 |false=>none
def vTn (ts:List Thr):AV:= .seq z17 ts.length fun j=> .agg [.int .i64 (ts.getD j c0t).id, .int .i64 0, .nils]
theorem zhm {p:PProg} {t:Thr} {s e:Int} (h:TWf p t):TWf p (endT t s e):=⟨⟨h.ok.regs,h.ok.id,h.ok.pc,h.ok.held⟩,h.fn,h.pc⟩
theorem z194 {p:PProg} {b:Int} {t:Thr} {i:Inst} (h:TWf p t):TWf p (vsT b t i):=by
 unfold vsT
 split
 . exact zhm h
 . split
   . exact zhm h
   . exact h
theorem zlq {p:PProg} {b:Int} (hp:POk p):∀ (k:Nat) (t:Thr),TWf p t ->TWf p (z4q p b k t)
 |0,t,h=>by
  unfold z4q
  split
  . exact zhm h
  . split
    . exact z194 h
    . exact zhm h
 |k+1,t,h=>by
  unfold z4q
  split
  . exact zhm h
  . rename_i ha
    have hl:=zpl hp h (by simpa using ha)
    split
    . exact z194 h
    . split
      . exact zlq hp k _ hl
      . exact hl
theorem zjc {p:PProg} {b:Int} {t:Thr} (hp:POk p) (h:TWf p t):TWf p (setl p b t):=zlq hp _ _ h
theorem z6s:TOK c0t:=⟨rfl,by decide,by decide,by decide⟩
theorem zxg:MSm c0m:=⟨by decide,by decide,by decide,by decide,by decide⟩
theorem zft:SSm c0st:=⟨by decide,fun j=>z6s,zxg,by decide,fun j=>by show 0<=_;omega⟩
theorem z120 {p:PProg} (hp:PSm p):MSm (newM p).1:=by
 unfold newM
 split
 . exact zxg
 . have h1:=hp.vars
   have h2:=hp.muts
   have h3:=hp.conds
   refine⟨by simpa using h1,by simpa using h2,by simpa using h3,by show 0<=_;omega, ?_⟩
   unfold allI
   rw[List.length_append]
   have :(List.replicate p.conds.length ([]:List Int)).flatten=[]:=by simp
   show 0+(List.replicate p.conds.length ([]:List Int)).flatten.length<=_
   rw[this];decide
theorem zbc {p:PProg} {b:Int} (hp:PSm p):SSm (zj p b).1:=by
 unfold zj
 split
 . exact zft
 . rename_i h
   have h:stdE p b=0:=by omega
   have hk:POk p:=⟨hp,(z48 h).1⟩
   refine⟨by show(z1p p b p.thr.length).length<=_;rw[z2n];exact hp.thr,fun j=>?_,z120 hp,by show 0<=_;omega,fun j=>by show 0<=_;omega⟩
   show TOK ((z1p p b p.thr.length).getD j c0t)
   by_cases hj:j<p.thr.length
   . have e:(z1p p b p.thr.length).getD j c0t=(newT p b j (p.thr.getD j c0s).fn (p.thr.getD j c0s).arg).1:=by
      unfold z1p;simp[List.getD_eq_getElem?_getD,hj]
     rw[e,zhi hp h hj]
     exact(zjc hk (zfj (by have :=hp.thr;omega) (hk.thr.2 j hj).1)).ok
   . rw[List.getD_eq_getElem?_getD,List.getElem?_eq_none (by rw[z2n];omega)]
     exact z6s
section
variable (p:PProg) (b:Int)
def q1c5:=(zp p b).fst.thr.length=0
def q1rf:=(zj (dP (encP p)) b).snd !=0
def q1c6:Int:=↑(zj (dP (encP p)) b).fst.thr.length
variable (x2:Nat)
def qqe:=x2<=(zj p b).fst.thr.length
def q1c7:=LS (rowT (zj (dP (encP p)) b).fst.thr) (rowT (zj p b).fst.thr)
def q1c8:Nat:=(zj p b).fst.thr.length - x2
def q1r2:List AV:=[AV.int j6 0,AV.nils]
def qqf:=AV.agg (AV.int j6 ((zj p b).fst.thr.getD x2 c0t).id::q1r2)
def q1c9:List AV:=AV.int j6 0::q1r2
def q1ca:=decide ((↑x2:Int)<(↑(zj p b).fst.thr.length:Int))
end
theorem kTst (p:PProg) (b:Int) (hp:PSm p):KN 64 [vP p, .int .i64 b] (.tup [.mc stSh (.agg [rowT (zp p b).1.thr,encM (zp p b).1.mem,vTn (zp p b).1.thr]), .int .i64 (zp p b).2]):=by
 refine Kn (vBu 37 (z191 (zj p b).1)) Tryz.func64 (KN 65 [AV.mc z7 (encP p),AV.int j6 b] (AV.tup [AV.mc stSh (AV.agg [rowT (zj (dP (encP p)) b).fst.thr,encM (zj (dP (encP p)) b).fst.mem,AV.nils]),AV.int j6 (zj (dP (encP p)) b).snd])/\(q1rf p b=true->(q1c5 p b/\((zp p b).fst.mem.vars.length=0/\(zp p b).fst.mem.owners.length=0/\(zp p b).fst.mem.queues.length=0/\(zp p b).fst.mem.sig.length=0)/\q1c5 p b)/\(zj (dP (encP p)) b).snd=(zp p b).snd)/\(q1rf p b=false->q1c6 p b<=9223372036854775807/\(∃ (i:Nat),qqe p b i/\(q1c7 p b/\q1c6 p b=(↑(List.length (SState.thr (Prod.fst (zj p b)))):Int)/\(0:Int)=(↑i:Int))/\((0:Nat)=(0:Nat)/\((0:Nat)=(0:Nat)/\(0:Nat)=(0:Nat)/\(0:Nat)=(0:Nat)/\(0:Nat)=(0:Nat))/\(0:Nat)=(0:Nat))/\(q1c7 p b/\LS (encM (SState.mem (Prod.fst (zj (dP (encP p)) b)))) (encM (SState.mem (Prod.fst (zj p b))))/\i=(0:Nat))/\i=(0:Nat))/\∀ i:Nat,qqe p b i->(q1ca p b i=true->inIx (↑i) (zj p b).fst.thr.length/\1*z17.size<=16777216/\(RR i/\↑(qd i)*↑(40:Nat)<=(140737488355328:Int)/\qd i<=9223372036854775807)/\1<=1/\InR j6 (q6 i)/\(∃ j,qqe p b j/\q1c8 p b j<q1c8 p b i/\(LT (rowT (zj p b).fst.thr)/\RR (↑(zj p b).fst.thr.length:Int)/\q6 i=(↑j:Int))/\(LT (rowT [])/\(LT (rowI [])/\LT (rowI [])/\LT (rowQ [])/\LT (rowI []))/\LT (rowB []))/\(LT (rowT (zj p b).fst.thr)/\LT (encM (zj p b).fst.mem)/\qn i j)/\qn i j/\∀ (i_1:Nat),i_1<qd i->(if i_1<i then qqf p b i_1 else((List.replicate 1 (AV.agg q1c9)).set 0 (AV.agg (q1c9.set 0 (strip1 (AV.int j6 ((zj p b).fst.thr.getD (↑i:Int).toNat c0t).id))))).getD (i_1 - i) AV.any)=qqf p b i_1))/\(q1ca p b i=false->i<=i/\(LS (rowT (zj p b).fst.thr) (rowT (zp p b).fst.thr)/\LS (encM (zj p b).fst.mem) (encM (zp p b).fst.mem)/\i=(zp p b).fst.thr.length/\∀ (i_1:Nat),i_1<i->qqf p b i_1=AV.agg (AV.int j6 ((zp p b).fst.thr.getD i_1 c0t).id::q1r2))/\0=(zp p b).snd))) ?_
 try delta q1c5 q1rf q1c6 qqe q1c7 qd q6 q1c8 qn q1r2 qqf q1c9 q1ca
 simp only[SB,SX,inIx,reduceCtorEq,Int.reduceToNat]
 refine⟨z11n p b hp,fun h=>?_,fun h=>?_⟩
 . have hz:stdE p b≠0:=fun hz=>h (by unfold zj;rw[if_neg (by simp[hz])])
   have e1:zj p b=(c0st,stdE p b):=by unfold zj;rw[if_pos hz]
   have e2:zp p b=(c0st,stdE p b):=by unfold zp;rw[if_pos hz]
   rw[e1,e2];exact⟨⟨rfl,zMem,rfl⟩,rfl⟩
 . have hz:stdE p b=0:=by
    refine Classical.byContradiction fun hz=>?_
    unfold zj at h;rw[if_pos hz]at h;exact hz h
   have e2:zp p b=(zd4 (zj p b).1 [],0):=by unfold zp;rw[if_neg (by simp[hz])]
   have h1:=(zbc (b:=b) hp).thr
   refine⟨by omega,⟨0,by omega,rfl,rfl,rfl⟩,fun i hi=>⟨fun hlt=>⟨hlt,by decide,by omega,za (by omega) (by omega),i+1,by omega,by omega,by omega,rfl,rfl,fun j hj=>?_⟩,fun hge=>?_⟩⟩
   . split
     . rfl
     . rw[show j=i from by omega,Nat.sub_self];rfl
   . rw[e2,show i=(zj p b).1.thr.length from by omega]
     exact⟨⟨⟨rfl,fun _ _=>rfl⟩,⟨⟨rfl,fun _ _=>rfl⟩,⟨rfl,fun _ _=>rfl⟩,⟨rfl,fun _ _=>rfl⟩,rfl,fun _ _=>rfl⟩,rfl,fun _ _=>rfl⟩,rfl⟩
theorem zjd (p:PProg) (b:Int):(zp p b).1.bufs=bufL (zp p b).1.thr [] (zp p b).1.thr.length:=by
 unfold zp;split<;>rfl
theorem kTst' (p:PProg) (b:Int) (hp:PSm p):KN 64 [vP p, .int .i64 b] (.tup [vSt (zp p b).1, .int .i64 (zp p b).2]):=by
 refine(kTst p b hp).imp fun w F v h=>RepR.of_tup (r:=[_,_]) (r':=[_,_]) (by rfl) (fun j hj u hu=>?_) h
 match j,hj with
 |1,_=>exact hu
 |0,_=>
  have hu:RepS w F u (.mc stSh (.agg [rowT (zp p b).1.thr,encM (zp p b).1.mem,vTn (zp p b).1.thr])):=hu
  cases hu with
  |mc cs sh x hs hr=>
   refine .mc cs _ _ hs fun j hj=>?_
   have h:=hr j hj
   match j,hj with
   |0,_ |1,_ |2,_ |3,_ |4,_=>exact h
   |5,_=>
    show RepS w F _ (rowB (zp p b).1.bufs)
    rw[zjd]
    exact zqe (zp p b).1.thr [] _ (Nat.le_refl _) h
end
end Go.Proofs.S25
namespace Go.Proofs.S25
open Go Go.AV Go.RowKit Go.Lib
set_option maxHeartbeats 2000000 in
set_option maxRecDepth 100000 in
theorem zd5 (ad:Addr) (n c:Nat) (news:List Value) (w:World) (hl:news.length=n*2) (hbig:n*16<=140737488355328) (hc:∀ j u,news[j]? =some u ->w.cell? (ad.add j)=some u) (h1:∀ u∈news,u.oneCell'=true):
 Calls Tryz.prog 194 #[.slice (some ad) n c] w fun e w'=>∃ v',e= .returned v'/\w'.ownsRow w.heap.size 117 2 v' n news/\v'≠ .slice none 0 0/\Below w.heap.size w w':=by
 have mixed:Tryz.prog.follows .mixedOrders=true:=by kernel_rfl
 have t22:Tryz.prog.underlying 88=some (TypeDesc.slice 117):=by kernel_rfl
 obtain⟨i0,hi,hz0,hz1,hz2⟩:=info_parts (P:=Tryz.prog) (e:=117) (z:= .agg #[.int .i64 0, .int .i64 0]) (size:=2) (bytes:=16) (by kernel_rfl)
 have q22:∀ (w:World) (a:Option Addr) (n c n' c':Nat),(binOp .eql 88 (.slice a n c) (.slice none n' c')).run Tryz.prog w= .ok (.bool a.isNone) w:=fun w a n c n' c'=>Lib.run_eql_slice_nil w _ _ a n c n' c' t22
 have u22:∀ w,Sem.run Tryz.prog (underlying 88) w= .ok (TypeDesc.slice 117) w:=run_underlying t22
 have A:Aside (∀ j u,news[j]? =some u ->w.cell? (ad.add j)=some u):=hc
 clear hc
 go_enter Tryz.func194,Tryz.ntmps194
 go_wp2_with (at_builtin;refine wpList_append_own _ rfl _ _ 88 rfl w.heap.size 117 i0 (.agg #[.int .i64 0, .int .i64 0]) 2 16 t22 hi hz0 hz1 hz2 rfl (by decide) _ _ _ rfl (World.ownsRow_made w #[] 0 (Nat.le_refl _) (Nat.zero_le _) rfl) ad n c news rfl hl ?qc2 h1 ?qc4 ?qc5 ?qc6 ?_)
 case qc2=>exact fun j u hj=>Lib.cell?_alloc_some _ (A.out j u hj)
 case qc4=>unfold maxLen;omega
 case qc5=>omega
 case qc6=>simp
 intro v' w1 hown hgrow hnil
 go_wp2
 go_ret
 refine⟨v',rfl,by simpa using hown, ?_, ?_⟩
 . exact hnil
 . exact((Below.refl _ w).alloc (Nat.le_refl _) _).grown hgrow (by simp) (by intro k hk;simp[Value.ownBlock]at hk;omega)
theorem zn2 (n c:Nat) (w:World):Calls Tryz.prog 194 #[.slice none n c] w fun e w'=>e= .returned (.slice none 0 0)/\w'=w:=by
 have mixed:Tryz.prog.follows .mixedOrders=true:=by kernel_rfl
 have t22:Tryz.prog.underlying 88=some (TypeDesc.slice 117):=by kernel_rfl
 have q22:∀ (w:World) (a:Option Addr) (n c n' c':Nat),(binOp .eql 88 (.slice a n c) (.slice none n' c')).run Tryz.prog w= .ok (.bool a.isNone) w:=fun w a n c n' c'=>Lib.run_eql_slice_nil w _ _ a n c n' c' t22
 go_enter Tryz.func194,Tryz.ntmps194
 go_wp2
 go_ret
 exact⟨rfl,rfl⟩
abbrev entB (l:List BEnt):BoxC:= .row 117 z16 l.length fun i=>encE (l.getD i c0e)
def zee (cs:Nat ->Nat ->Value) (n:Nat):List Value:=(List.range (n*2)).map fun j=>cs (j/2) (j % 2)
theorem zu0 (l:List BEnt) (hl:l.length<=1000000):KF 194 [rowE l] (.own 0 l.length) [entB l]:=by
 refine⟨z2i.of Tryz.func194 (by kernel_rfl) (by kernel_rfl), ?_⟩
 intro w F vs hro hglob hsz hr
 obtain⟨v,rfl⟩:∃ v,vs=#[v]:=by
  match vs,hsz with
  | ⟨[c]⟩,_=>exact⟨c,rfl⟩
 have hv:RepS w F v (rowE l):=hr 0 (by simp)
 have one:∀ i c,([entB l]:List BoxC)[i]? =some c ->i=0/\c=entB l:=by
  intro i c hc
  match i,hc with
  |0,hc=>cases hc;exact⟨rfl,rfl⟩
 have own:∀ (news:List Value) v' w',w'.ownsRow w.heap.size 117 2 v' l.length news ->(∀ i,i<l.length ->∀ j,j<2 ->∃ u,news[i*2+j]? =some u/\RepS w F u (z6 z16 (encE (l.getD i c0e)) j)) ->Below w.heap.size w w' ->∃ v F' φ',(Ending.returned v':Ending)= .returned v/\Below w.heap.size w w'/\(∀ k,F k ->F' k)/\(∀ k,F' k ->F k∨w.heap.size<=k)/\(∀ k,F' k ->k<w'.heap.size)/\Rep w' F' φ' v (.own 0 l.length)/\
  (∀ i c,([entB l]:List BoxC)[i]? =some c ->z24 w' F' φ' (fun k=>w.heap.size<=k) i c)/\∀ i i' g,i<([entB l]:List BoxC).length ->i'<([entB l]:List BoxC).length ->(φ' i).blk=some g ->(φ' i').blk=some g ->i=i':=by
  intro news v' w' hown hR hbel
  have hbk:∀ k,v'.ownBlock=some k ->w.heap.size<=k:=by
   intro k hk
   rcases hown.2 with⟨rfl,_⟩ | ⟨g,cap,cur,rfl,hbg,_⟩
   . cases hk
   . cases hk;exact hbg
  obtain⟨pl,p1,p2,p3,hpl⟩:=z5h (w:=w') (F:=F) (b:=0) (sh:=z16) (B:=fun k=>w.heap.size<=k) (f:=fun i=>encE (l.getD i c0e)) hown hbk (fun k hk hf=>by have :=hbk k hk;have :=hro k hf;omega) fun i hi j hj=>by
   obtain⟨u,h1,h2⟩:=hR i hi j hj
   exact⟨u,h1,h2.keep (fun k hk=>hbel.block k (hro k hk)) fun _ h=>h⟩
  obtain⟨h1,h2⟩:=hpl (fun _=>pl) rfl
  refine⟨v',F,fun _=>pl,rfl,hbel,fun _ h=>h,fun _ h=> .inl h,fun k hk=>Nat.lt_of_lt_of_le (hro k hk) hbel.size,h2,fun i c hc=>?_,fun i i' g hi hi' _ _=>?_⟩
  . obtain⟨rfl,rfl⟩:=one i c hc
    exact h1
  . simp at hi hi';omega
 have hv':RepS w F v (.seq z16 l.length fun i=>encE (l.getD i c0e)):=hv
 generalize hn:l.length=n at hv'
 cases hv' with
 |seq0 a cap sh f=>
  have hl0:l=[]:=List.eq_nil_of_length_eq_zero hn
  subst hl0
  cases a with
  |none=>
   refine(zn2 0 cap w).mono ?_
   rintro e w' ⟨rfl,rfl⟩
   exact own [] _ _ ⟨rfl, .inl ⟨rfl,rfl⟩⟩ (fun i hi=>absurd hi (Nat.not_lt_zero i)) (Below.refl _ _)
  |some a=>
   refine(zd5 a 0 cap [] w rfl (by decide) (by intro j u hj;simp at hj) (by intro u hu;cases hu)).mono ?_
   rintro e w' ⟨v',rfl,h1,_,h2⟩
   exact own [] _ _ h1 (fun i hi=>absurd hi (Nat.not_lt_zero i)) h2
 |seq g o n cap sh f cs hF hnc hc hrr=>
  subst hn
  have get:∀ i j,i<l.length ->j<2 ->(zee cs l.length)[i*2+j]? =some (cs i j):=by
   intro i j hi hj
   unfold zee
   rw[List.getElem?_map,List.getElem?_range (by omega)]
   show some (cs ((i*2+j)/2) ((i*2+j) % 2))=_
   rw[show(i*2+j)/2=i by omega,show(i*2+j) % 2=j by omega]
  have split:∀ j u,(zee cs l.length)[j]? =some u ->j/2<l.length/\u=cs (j/2) (j % 2):=by
   intro j u hj
   have hlt:=(List.getElem?_eq_some_iff.1 hj).1
   have hlt:j<l.length*2:=by simpa [zee]using hlt
   have :=get (j/2) (j % 2) (by omega) (by omega)
   rw[show j/2*2+j % 2=j by omega,hj]at this
   exact⟨by omega,Option.some.inj this⟩
  refine(zd5 ⟨g,o,none⟩ l.length cap (zee cs l.length) w (by simp[zee]) (by omega) (fun j u hj=>?_) fun u hu=>?_).mono ?_
  . obtain⟨h1,rfl⟩:=split j u hj
    have :=hc (j/2) h1 (j % 2) (Nat.mod_lt _ (by decide))
    have e:o+(j/2*z16.size+j % 2)=o+j:=by
     show o+(j/2*2+j % 2)=o+j
     omega
    rw[e]at this
    unfold Addr.add
    split
    . rename_i q;subst q;exact this
    . exact this
  . obtain⟨j,hj⟩:=List.getElem?_of_mem hu
    obtain⟨h1,rfl⟩:=split j u hj
    exact RepS.leaf1 _ _ _ (hrr (j/2) h1 (j % 2) (Nat.mod_lt _ (by decide)))
  . rintro e w' ⟨v',rfl,h1,_,h2⟩
    exact own _ _ _ h1 (fun i hi j hj=>⟨_,get i j hi hj,hrr i hi j hj⟩) h2
theorem z122 (l:List BEnt) (hl:l.length<=1000000):KN 194 [rowE l] (rowE l):=(zu0 l hl).stat
theorem zqn (l:List Int) (hl:l.length<=1000000):KN 193 [rowI l] (rowI l):=(zfd l hl).stat
end Go.Proofs.S25
namespace Go.Proofs.S25
open Go Go.AV
open Go.IntKind renaming i64 -> j6
open Go.AV.Shape (leaf)
noncomputable section
def spMc:FuncId ->List AV ->Option AV
 |116,[.mc _ m]=>some (vM (dM m))
 |193,[.seq _ n f]=>some (rowI (zw n f))
 |194,[.seq _ n f]=>some (rowE (dR dE (.seq z16 n f)))
 |f,l=>spB4 f l
noncomputable def vMc (n:Nat) (inv:Nat ->Option Inv):VCtx:={C:=cfgM n fun _ _=>false,CC:=Known Tryz.prog GG,orc:=fun _ _=>spMc,inv:=inv}
def zqo (s:SState):AV:= .mc stSh (.agg [.own 0 s.thr.length,encM s.mem, .own 1 s.bufs.length])
def zje (s:SState):List BoxC:=[tBox s.thr,bBox s.bufs]
def z198 (s:SState) (k:Nat):Option Inv:=match Nat.beq k 5 with
 |true=>iv s.thr.length fun i=>⟨[(1, .ptr 1 []),(2, .ptr 2 []),(3, .ptr 3 []),(22, .int .i64 s.thr.length),(23, .int .i64 i)],[(1,z2z s),(2,z2z c0st),(3, .cell 41 stSh (.agg [.own 13 s.thr.length,encM s.mem, .nils])),(13,tBox s.thr)]⟩
 |false=>match Nat.beq k 12 with
  |true=>iv s.bufs.length fun i=>⟨[(1, .ptr 1 []),(2, .ptr 2 []),(3, .ptr 3 []),(51, .int .i64 s.bufs.length),(52, .int .i64 i)],[(1,z2z s),(2,z2z c0st),(3, .cell 41 stSh (.agg [.own 13 s.thr.length,encM s.mem, .own 42 s.bufs.length])),(13,tBox s.thr),(42,bBox s.bufs)]⟩
  |false=>none
theorem z123 (m:Mem) (hm:MSm m):KN 116 [vM m] (vM m):=by
 refine Kn (vM3 36 (fun d=>Nat.beq d 8 || (Nat.beq d 11 || Nat.beq d 18)) (ztm m)) Tryz.func116 ((KF (201:Nat) [rowI m.vars] (AV.own (0:Nat) m.vars.length) [BoxC.row (3:TypeId) leaf (ql m) fun i=>qu m i])/\(KF (201:Nat) [rowI m.owners] (AV.own (0:Nat) m.owners.length) [BoxC.row (3:TypeId) leaf (qm m) fun i=>qv m i])/\q15 m/\((0:Int)<=↑m.queues.length/\(↑m.queues.length:Int)<=(↑m.queues.length:Int)/\↑(24:Nat)*↑m.queues.length<=(140737488355328:Int)/\q15 m)/\(KF (201:Nat) [rowI m.sig] (AV.own (0:Nat) m.sig.length) [BoxC.row (3:TypeId) leaf (qk m) fun i=>qo m i])/\q15 m/\(∃ (i:Nat),i<=List.length (Mem.queues m)/\(LT (rowQ (Mem.queues m))/\RR (↑(List.length (Mem.queues m)):Int)/\(0:Int)=(↑i:Int))/\LT (encM m)/\((0:Nat)=(0:Nat)/\(0:Nat)=(0:Nat)/\(0:Nat)=(0:Nat)/\(0:Nat)=(0:Nat))/\(RR (List.length (Mem.vars m))/\RR (List.length (Mem.owners m))/\q4d m/\RR (List.length (Mem.sig m)))/\(ql m=List.length (Mem.vars m)/\∀ (i:Nat),i<ql m->qu m i=AV.int j6 (List.getD (Mem.vars m) i (0:Int)))/\(qm m=List.length (Mem.owners m)/\∀ (i:Nat),i<qm m->qv m i=AV.int j6 (List.getD (Mem.owners m) i (0:Int)))/\(q4d m/\∀ (i_1:Nat),i_1<Int.toNat (↑(List.length (Mem.queues m)):Int)->AV.nils=q3i m i i_1)/\qk m=List.length (Mem.sig m)/\∀ (i:Nat),i<qk m->qo m i=AV.int j6 (List.getD (Mem.sig m) i (0:Int)))/\∀ i:Nat,i<=m.queues.length->(qj m i=true->inIx (↑i) m.queues.length/\KN 201 [rowI (m.queues.getD (↑i:Int).toNat [])] (q1p m i)/\inIx (↑i) m.queues.length/\(↑i:Int).toNat<m.queues.length/\InR j6 (q6 i)/\(∃ j,j<=m.queues.length/\qi m j<qi m i/\(LT (rowQ m.queues)/\RR (↑m.queues.length:Int)/\q6 i=(↑j:Int))/\LT (encM m)/\(LT (rowI [])/\LT (rowI [])/\LT (rowQ [])/\LT (rowI []))/\(RR m.vars.length/\RR m.owners.length/\RR m.queues.length/\RR m.sig.length)/\(RR m.vars.length/\∀ (i:Nat),i<m.vars.length->RR (AV.int j6 (m.vars.getD i 0)))/\(RR m.owners.length/\∀ (i:Nat),i<m.owners.length->RR (AV.int j6 (m.owners.getD i 0)))/\(RR m.queues.length/\∀ (i_1:Nat),i_1<m.queues.length->(if i_1=(↑i:Int).toNat then strip1 (q1p m i)else q3i m i i_1)=q3i m j i_1)/\RR m.sig.length/\∀ (i:Nat),i<m.sig.length->RR (AV.int j6 (m.sig.getD i 0))))/\(qj m i=false->m.vars.length<=m.vars.length/\m.owners.length<=m.owners.length/\m.queues.length<=m.queues.length/\m.sig.length<=m.sig.length/\LT (rowI m.vars)/\LT (rowI m.owners)/\(RR m.queues.length/\∀ (i_1:Nat),i_1<m.queues.length->q3i m i i_1=rowI (m.queues.getD i_1 []))/\LT (rowI m.sig))) ?_
 try delta q4b ql qu q4c qm qv q15 q2x qk qo q4d q3i q1p q6 qi qj
 simp only[SB,SX,inIx,reduceCtorEq,Int.reduceToNat]
 simp only[oR,implies_true,and_true,true_and]
 have s3:=hm.queues
 refine⟨z4k _ hm.vars,z4k _ hm.owners,by omega,⟨by omega,by omega⟩,z4k _ hm.sig,by omega,⟨0,by omega,rfl,fun j hj=>by rw[if_neg (by omega)]⟩,fun i hi=>⟨fun hlt=>⟨hlt,zfm _ (hm.q i),hlt,hlt,za (by omega) (by omega),i+1,hlt,by omega,by omega,fun j hj=>?_⟩,fun hge j hj=>by rw[if_pos (by omega)]⟩⟩
 by_cases e:j=i
 . subst e;rw[if_pos rfl,if_pos (by omega)];rfl
 . rw[if_neg e]
   by_cases h:j<i
   . rw[if_pos h,if_pos (by omega)]
   . rw[if_neg h,if_neg (by omega)]
section
variable (s:SState)
def q1r:=↑s.thr.length<=(9223372036854775807:Int)
def qdo:=(↑(↑s.thr.length:Int).toNat:Int)<=9223372036854775807
def qdp:=(↑s.thr.length:Int).toNat=s.thr.length
def q4o:List AV:=[AV.int j6 0,AV.int j6 0,AV.nils]
variable (x1:Nat)
def qdq:List AV:=[rowI (s.thr.getD (↑x1:Int).toNat c0t).held]
def qdr:=rowI (zw (s.thr.getD (↑x1:Int).toNat c0t).held.length fun i=>AV.int j6 ((s.thr.getD (↑x1:Int).toNat c0t).held.getD i 0))
def q1r9:=LT (rowT [])/\(LT (rowI [])/\LT (rowI [])/\LT (rowQ [])/\LT (rowI []))/\LT (rowB [])
def qds:=↑s.bufs.length<=(9223372036854775807:Int)
def qdt:=(↑(↑s.bufs.length:Int).toNat:Int)<=9223372036854775807
def q1cc:=(↑s.bufs.length:Int).toNat=s.bufs.length
def q1z:=RR s.thr.length/\∀ (i:Nat),i<s.thr.length->RR (encT (s.thr.getD i c0t))
def q1cd:List AV:=[rowE (s.bufs.getD (↑x1:Int).toNat c0b).entries]
def qdu:=rowE (dR dE (rowE (s.bufs.getD (↑x1:Int).toNat c0b).entries))
def q1ce:=RR s.thr.length/\LT (encM s.mem)/\RR s.bufs.length
def q4p:=decide ((↑x1:Int)<(↑s.bufs.length:Int))
end
theorem z19a (s:SState) (hs:SSm s):KF 114 [vSt s] (zqo s) (zje s):=by
 refine KnF (vMc 69 (z198 s)) Tryz.func114 (KN 116 [AV.mc zm (encM s.mem)] (AV.mc zm (AV.agg [rowI (dR dI (rowI s.mem.vars)),rowI (dR dI (rowI s.mem.owners)),rowQ (dR (dR dI) (rowQ s.mem.queues)),rowI (dR dI (rowI s.mem.sig))]))/\q1r s/\((0:Int)<=↑s.thr.length/\(↑s.thr.length:Int)<=(↑s.thr.length:Int)/\↑(152:Nat)*↑s.thr.length<=(140737488355328:Int)/\q1r s)/\((↑s.thr.length:Int).toNat<=(↑s.thr.length:Int).toNat/\qdo s)/\qdo s/\(∃ (i:Nat),i<=List.length (SState.thr s)/\((↑(Int.toNat (↑(List.length (SState.thr s)):Int)):Int)=(↑(List.length (SState.thr s)):Int)/\(0:Int)=(↑i:Int))/\LT (ze s)/\((0:Nat)=(0:Nat)/\((0:Nat)=(0:Nat)/\(0:Nat)=(0:Nat)/\(0:Nat)=(0:Nat)/\(0:Nat)=(0:Nat))/\(0:Nat)=(0:Nat))/\(qdp s/\LS (rowI (dR dI (rowI (Mem.vars (SState.mem s))))) (rowI (Mem.vars (SState.mem s)))/\LS (rowI (dR dI (rowI (Mem.owners (SState.mem s))))) (rowI (Mem.owners (SState.mem s)))/\LS (rowQ (dR (dR dI) (rowQ (Mem.queues (SState.mem s))))) (rowQ (Mem.queues (SState.mem s)))/\LS (rowI (dR dI (rowI (Mem.sig (SState.mem s))))) (rowI (Mem.sig (SState.mem s))))/\qdp s/\∀ (i:Nat),i<Int.toNat (↑(List.length (SState.thr s)):Int)->(if i<min (List.length (SState.thr s)) (Int.toNat (↑(List.length (SState.thr s)):Int))then encT (List.getD (SState.thr s) i c0t)else AV.agg (AV.int j6 (0:Int)::AV.int j6 (0:Int)::AV.int j6 (0:Int)::(AV.arr (8:Nat) fun(x:Nat)=>AV.int j6 (0:Int))::AV.int j6 (0:Int)::AV.int j6 (0:Int)::AV.int j6 (0:Int)::q4o))=encT (List.getD (SState.thr s) i c0t))/\∀ i:Nat,i<=s.thr.length->(qc s i=true->inIx (↑i) s.thr.length/\KN 193 (qdq s i) (qdr s i)/\inIx (↑i) s.thr.length/\(↑i:Int).toNat<s.thr.length/\qa i/\(∃ j,j<=s.thr.length/\s.thr.length - j<s.thr.length - i/\(RR (↑s.thr.length:Int)/\qb i j)/\LT (ze s)/\q1r9/\(RR s.thr.length/\LT (encM s.mem))/\RR s.thr.length/\∀ (i_1:Nat),i_1<s.thr.length->(if i_1=(↑i:Int).toNat then AV.agg ((AV.int j6 (s.thr.getD (↑i:Int).toNat c0t).id::AV.int j6 (s.thr.getD (↑i:Int).toNat c0t).fn::AV.int j6 (s.thr.getD (↑i:Int).toNat c0t).pc::arr8 (s.thr.getD (↑i:Int).toNat c0t).regs::AV.int j6 (s.thr.getD (↑i:Int).toNat c0t).steps::AV.int j6 (s.thr.getD (↑i:Int).toNat c0t).kids::AV.int j6 (s.thr.getD (↑i:Int).toNat c0t).phase::AV.int j6 (s.thr.getD (↑i:Int).toNat c0t).status::AV.int j6 (s.thr.getD (↑i:Int).toNat c0t).fault::qdq s i).set 9 (strip1 (qdr s i)))else encT (s.thr.getD i_1 c0t))=encT (s.thr.getD i_1 c0t)))/\(qc s i=false->qds s/\((0:Int)<=↑s.bufs.length/\(↑s.bufs.length:Int)<=(↑s.bufs.length:Int)/\↑(40:Nat)*↑s.bufs.length<=(140737488355328:Int)/\qds s)/\((↑s.bufs.length:Int).toNat<=(↑s.bufs.length:Int).toNat/\qdt s)/\qdt s/\(∃ i,i<=s.bufs.length/\((↑(↑s.bufs.length:Int).toNat:Int)=(↑s.bufs.length:Int)/\0=(↑i:Int))/\LT (ze s)/\q1r9/\(RR s.thr.length/\LT (encM s.mem)/\q1cc s)/\q1z s/\q1cc s/\∀ (i:Nat),i<(↑s.bufs.length:Int).toNat->(if i<min s.bufs.length (↑s.bufs.length:Int).toNat then encB (s.bufs.getD i c0b)else AV.agg q4o)=encB (s.bufs.getD i c0b))/\∀ (i:Nat),i<=s.bufs.length->(q4p s i=true->inIx (↑i:Int) s.bufs.length/\KN 194 (q1cd s i) (qdu s i)/\inIx (↑i:Int) s.bufs.length/\(↑i:Int).toNat<s.bufs.length/\qa i/\∃ j,j<=s.bufs.length/\s.bufs.length - j<s.bufs.length - i/\(RR (↑s.bufs.length:Int)/\qb i j)/\LT (ze s)/\q1r9/\q1ce s/\q1z s/\RR s.bufs.length/\∀ (i_1:Nat),i_1<s.bufs.length->(if i_1=(↑i:Int).toNat then AV.agg ((AV.int j6 (s.bufs.getD (↑i:Int).toNat c0b).thread::AV.int j6 (s.bufs.getD (↑i:Int).toNat c0b).first::q1cd s i).set (2:Nat) (strip1 (qdu s i)))else encB (s.bufs.getD i_1 c0b))=encB (s.bufs.getD i_1 c0b))/\(q4p s i=false->q1ce s/\q1z s/\RR s.bufs.length/\∀ (i:Nat),i<s.bufs.length->RR (encB (s.bufs.getD i c0b))))) ?_
 try delta q1r qdo qdp q4o qdq qdr q6 qa qb q1r9 qc qds qdt q1cc q1z q1cd qdu q1ce q4p
 simp only[SB,SX,inIx,reduceCtorEq,Int.reduceToNat]
 simp only[oR]
 have h1:=hs.thr
 have h2:=hs.bufs
 refine⟨z123 _ hs.mem,by omega,⟨by omega,by omega⟩,by omega,by omega,⟨0,by omega,rfl,fun j hj=>by rw[if_pos (by omega)]⟩,fun i hi=>⟨fun hlt=>⟨hlt,zqn _ (by have :=(hs.ok i).held;omega),hlt,hlt,za (by omega) (by omega),i+1,by omega,by omega,by omega,fun j hj=>?_⟩,fun hge=>⟨by omega,⟨by omega,by omega⟩,by omega,by omega,⟨0,by omega,rfl,fun j hj=>by rw[if_pos (by omega)]⟩,fun i hi hlt=>⟨hlt,z122 _ (hs.ents i),hlt,hlt,za (by omega) (by omega),i+1,by omega,by omega,by omega,fun j hj=>?_⟩⟩⟩⟩
 . by_cases e:j=i
   . subst e;rw[if_pos rfl];rfl
   . rw[if_neg e]
 . by_cases e:j=i
   . subst e;rw[if_pos rfl];rfl
   . rw[if_neg e]
def scS (s:SState):SState:={s with bufs:=[]}
def effM (m:Mem) (t:Thr) (i:Inst) (e:Ev):Mem×Int×Int:=
 if e.kind=5 then((zr m e.obj e.wrote).1,if i.op=12 then 1 else e.read,(zr m e.obj e.wrote).2)
 else if e.kind=2 then((zr m e.obj e.wrote).1,0,(zr m e.obj e.wrote).2)
 else if e.kind=1∨e.kind=8 then(m,e.read,0)
 else if e.kind=11 then(if e.read=0 then(m,0,0)else((ownM m e.obj t.id (-1) t.id).1,1,(ownM m e.obj t.id (-1) t.id).2))
 else if e.kind=9 then((ownM m e.obj t.id (-1) t.id).1,0,(ownM m e.obj t.id (-1) t.id).2)
 else if e.kind=10 then((ownM m e.obj t.id t.id (-1)).1,0,(ownM m e.obj t.id t.id (-1)).2)
 else if e.kind=12 then(if(ownM m e.mutex t.id t.id (-1)).2=0 then((enqM (ownM m e.mutex t.id t.id (-1)).1 e.obj t.id).1,0,(enqM (ownM m e.mutex t.id t.id (-1)).1 e.obj t.id).2)else((ownM m e.mutex t.id t.id (-1)).1,0,(ownM m e.mutex t.id t.id (-1)).2))
 else if e.kind=13 then((z1s m t.id).1,0,(z1s m t.id).2)
 else if e.kind=14 then((zi m e.obj 1).1,0,(zi m e.obj 1).2.2)
 else if e.kind=15 then((zi m e.obj (z1z m.queues)).1,0,(zi m e.obj (z1z m.queues)).2.2)
 else if e.kind=16 then(m,e.obj,0)
 else(m,0,0)
def posT (l:List Thr) (id:Int):Nat:=(l.takeWhile fun t=>decide (t.id<id)).length
def insT (l:List Thr) (c:Thr) (n:Nat):List Thr:=l.take n++(c::l.drop n)
def z1h (p:PProg) (b:Int) (s:SState) (id fn arg:Int):SState×Int:=
 if 0<=fid s.thr id then(c0st,30)else if(newT p b id fn arg).2≠0 then(c0st,30)else({s with thr:=insT s.thr (newT p b id fn arg).1 (posT s.thr id)},0)
def z1i (p:PProg) (b:Int) (s:SState) (a:Int):SState×Ev×Int:=
 if stdE p b≠0 then(c0st,c0ev,stdE p b)else if valS p b s=false then(c0st,c0ev,1)
 else if(runS p s a).2.2=false∨z20 s (runS p s a).1 (runS p s a).2.1=false then(c0st,c0ev,19)
 else
  let t:=(runS p s a).1
  let i:=(runS p s a).2.1
  let e:=labE s t i
  let f:=effM s.mem t i e
  if f.2.2≠0 then(c0st,c0ev,30)else
  let o:SState×Int:=if e.kind=16 then z1h p b {s with mem:=f.1} e.obj i.obj (regD t i.b)else({s with mem:=f.1},0)
  if o.2≠0 then(c0st,c0ev,o.2)else
  if(z15 p b t f.2.1).2≠0 then(c0st,c0ev,(z15 p b t f.2.1).2)else
  ({o.1 with thr:=o.1.thr.set (fid o.1.thr a).toNat (z15 p b t f.2.1).1},e,0)
def z2p (s:SState) (k:Nat) (v:Int):Int×Int:=
 if(z2g (s.bufs.getD k c0b) v).2.2 then((z2g (s.bufs.getD k c0b) v).1,(z2g (s.bufs.getD k c0b) v).2.1)else((z2y s.mem v).1,-1)
def tLab (p:PProg) (s:SState) (k:Nat):Ev×Bool:=
 let t:=s.thr.getD k c0t
 let b:=s.bufs.getD k c0b
 let i:=zg p t
 if z1b p t=false then(c0ev,false)
 else if i.op=8∨i.op=14 then(⟨t.id,t.steps,if i.op=14 then 8 else 1,i.obj,-1,(z2p s k i.obj).2,i.ord,(z2p s k i.obj).1,0⟩,true)
 else if i.op=9 then(⟨t.id,t.steps,3,i.obj,-1,b.first+b.entries.length,i.ord,0,regD t i.b⟩,true)
 else labS p (scS s) t.id
def tFlu (s:SState) (k:Nat):Ev×Bool:=
 let t:=s.thr.getD k c0t
 let b:=s.bufs.getD k c0b
 if b.entries.length=0 then(c0ev,false)else(⟨fluE t.id,b.first,4,(b.entries.getD 0 c0e).var,-1,b.first,0,0,(b.entries.getD 0 c0e).val⟩,true)
def tOn (p:PProg) (s:SState) (k:Nat) (on:List Int):Bool:=
 let t:=s.thr.getD k c0t
 let b:=s.bufs.getD k c0b
 let i:=zg p t
 if z1b p t=false then false else if i.op=8∨i.op=9 then true
 else if i.op=14 then(app i.fn (z2p s k i.obj).1 (regD t i.b)).2==0&&(app i.fn (z2p s k i.obj).1 (regD t i.b)).1 !=0
 else if(z43 i.op&&decide (0<b.entries.length)) || !hasI on t.id then false
 else if i.op=22 then decide (0<=fib s.bufs (regD t i.b))&&(s.bufs.getD (fib s.bufs (regD t i.b)).toNat c0b).entries.length==0
 else true
def fluR (l:List Buf) (n:Nat):List Int:=(((l.drop n).filter fun b=>decide (0<b.entries.length)).map fun b=>fluE b.thread).reverse
def onTR (p:PProg) (s:SState) (n:Nat):List Int:=((List.range n).filter fun k=>tOn p s k (onS p (scS s))).map fun k=>(s.thr.getD k c0t).id
def agsT (p:PProg) (s:SState):List Int:=fluR s.bufs 0++onTR p s s.thr.length
def zfu (p:PProg) (t:Thr) (b:Buf):Bool:=vldB b&&(b.thread==t.id&&b.entries.all fun e=>decide (e.var<p.vars.length))
def z1l (p:PProg) (b:Int) (s:SState):Bool:=z1f p s.mem&&(s.bufs.length==s.thr.length&&(zd3 p b s.thr&&(List.range s.thr.length).all fun j=>zfu p (s.thr.getD j c0t) (s.bufs.getD j c0b)))
def enTs (p:PProg) (s:SState):List Int:=if z1l p 32 s then agsT p s else []
def zu (p:PProg) (s:SState) (a:Int):Ev×Bool:=
 if fid s.thr (thrE a)<0 then(c0ev,false)else if a<0 then tFlu s (fid s.thr (thrE a)).toNat else tLab p s (fid s.thr (thrE a)).toNat
def zf (p:PProg) (s:SState) (a:Int):Ev×Bool:=if z1l p 32 s=false then(c0ev,false)else zu p s a
def z1t (p:PProg) (b:Int) (s:SState) (k:Nat) (e:Ev):SState×Int:=
 let t:=s.thr.getD k c0t
 let u:=s.bufs.getD k c0b
 if e.kind=4 then
  if(popB u).2.2.2≠0 then(c0st,30)else if(zr s.mem e.obj e.wrote).2≠0 then(c0st,30)
  else({s with bufs:=s.bufs.set k (popB u).1,mem:=(zr s.mem e.obj e.wrote).1},0)
 else if e.kind=3 then
  if(z19 u e.obj e.wrote).2.2≠0 then(c0st,30)else if(z15 p b t e.read).2≠0 then(c0st,30)
  else({s with bufs:=s.bufs.set k (z19 u e.obj e.wrote).1,thr:=s.thr.set k (z15 p b t e.read).1},0)
 else if(z15 p b t e.read).2≠0 then(c0st,30)else({s with thr:=s.thr.set k (z15 p b t e.read).1},0)
def z1v (p:PProg) (b:Int) (s:SState) (a:Int):SState×Ev×Int:=
 if(z1i p b (scS s) a).2.2≠0 then(c0st,c0ev,(z1i p b (scS s) a).2.2)else(zd4 (z1i p b (scS s) a).1 s.bufs,(z1i p b (scS s) a).2.1,0)
def ownK (e:Ev):Bool:=e.kind==1 || (e.kind==8 || (e.kind==3 || e.kind==4))
def zt (p:PProg) (b:Int) (s:SState) (a:Int):SState×Ev×Int:=
 if(zc p).1≠0 then(c0st,c0ev,(zc p).1)else if b<1∨32<b then(c0st,c0ev,2)else if z1l p b s=false then(c0st,c0ev,1)
 else if hasI (agsT p s) a=false then(c0st,c0ev,19)
 else if ownK (zu p s a).1 then
  (if(z1t p b s (fid s.thr (thrE a)).toNat (zu p s a).1).2≠0 then(c0st,c0ev,(z1t p b s (fid s.thr (thrE a)).toNat (zu p s a).1).2)else((z1t p b s (fid s.thr (thrE a)).toNat (zu p s a).1).1,(zu p s a).1,0))
 else z1v p b s a
def plSh:Shape:= .agg [stSh, .leaf]
def z19b (s:SState) (k:Int):AV:= .agg [ze s, .int .i64 k]
def vTP (s:SState) (k:Int):AV:= .mc plSh (z19b s k)
def oTo (p:PProg) (s:SState) (k:Nat) (e:Ev):FuncId ->List AV ->Option AV
 |172,[_]=>some (vStn s)
 |183,[_]=>some (.tup [vT (s.thr.getD k c0t),vB (s.bufs.getD k c0b)])
 |238,[_, .int _ v]=>some (.tup [.int .i64 (z2p s k v).1, .int .i64 (z2p s k v).2])
 |104,[_,_]=>some (.tup [vI (zg p (s.thr.getD k c0t)), .bool (z1b p (s.thr.getD k c0t))])
 |62,[_,_, .int _ a]=>some (.tup [vEv (labS p (scS s) a).1, .bool (labS p (scS s) a).2])
 |58,[_,_]=>some (rowI (onS p (scS s)))
 |170,[_, .int _ b, .mc _ t]=>some (.bool (z2x p b (dT t)))
 |169,[_,_]=>some (.bool (z1f p s.mem))
 |168,[_]=>some (.bool ((zc p).1==0))
 |54,[_]=>some (.tup [.int .i64 (zc p).1, .int .i64 (zc p).2.1, .int .i64 (zc p).2.2])
 |268,[_, .int _ x]=>some (.tup [.int .i64 (z2g (s.bufs.getD k c0b) x).1, .int .i64 (z2g (s.bufs.getD k c0b) x).2.1, .bool (z2g (s.bufs.getD k c0b) x).2.2])
 |175,[_, .int _ x]=>some (.tup [.int .i64 (z2y s.mem x).1, .int .i64 (z2y s.mem x).2])
 |185,[_, .int _ x, .int _ v]=>some (.tup [vM (zr s.mem x v).1, .int .i64 (zr s.mem x v).2])
 |184,[_]=>some (.tup [vB (popB (s.bufs.getD k c0b)).1,vEn (popB (s.bufs.getD k c0b)).2.1, .int .i64 (popB (s.bufs.getD k c0b)).2.2.1, .int .i64 (popB (s.bufs.getD k c0b)).2.2.2])
 |186,[_, .int _ x, .int _ v]=>some (.tup [vB (z19 (s.bufs.getD k c0b) x v).1, .int .i64 (z19 (s.bufs.getD k c0b) x v).2.1, .int .i64 (z19 (s.bufs.getD k c0b) x v).2.2])
 |118,[_, .int _ b,_, .int _ r]=>some (.tup [vT (z15 p b (s.thr.getD k c0t) r).1, .int .i64 (z15 p b (s.thr.getD k c0t) r).2])
 |188,[_, .int _ t]=>some (.tup [.int .i64 (max (fib s.bufs t) 0), .bool (decide (0<=fib s.bufs t))])
 |119,[_, .int _ t]=>some (.tup [.int .i64 (max (fid s.thr t) 0), .bool (decide (0<=fid s.thr t))])
 |101,[_, .int _ b,_]=>some (.bool (z1l p b s))
 |182,[_,_]=>some (.tup [vEv (tLab p s k).1, .bool (tLab p s k).2])
 |181,[_]=>some (.tup [vEv (tFlu s k).1, .bool (tFlu s k).2])
 |173,[.mc _ (.agg [_, .int _ k]),_,_]=>some (.bool (tOn p s k.toNat (onS p (scS s))))
 |102,[_,_]=>some (rowI (agsT p s))
 |57,[_,_]=>some (rowI (enTs p s))
 |107,[_, .int _ a]=>some (.tup [vTP s (max (fid s.thr (thrE a)) 0), .bool (decide (0<=fid s.thr (thrE a)))])
 |108,[_,_, .int _ a]=>some (.tup [vEv (zu p s a).1, .bool (zu p s a).2])
 |61,[_,_, .int _ a]=>some (.tup [vEv (zf p s a).1, .bool (zf p s a).2])
 |109,[_,_, .int _ b,_]=>some (.tup [vSt (z1t p b s k e).1, .int .i64 (z1t p b s k e).2])
 |110,[_,_, .int _ b, .int _ a]=>some (.tup [vSt (z1v p b s a).1,vEv (z1v p b s a).2.1, .int .i64 (z1v p b s a).2.2])
 |59,[_, .int _ b,_, .int _ a]=>some (.tup [vSt (zt p b s a).1,vEv (zt p b s a).2.1, .int .i64 (zt p b s a).2.2])
 |114,[_]=>some (zqo s)
 |f,l=>spB4 f l
def frTo (s:SState):FuncId ->List AV ->Option (List BoxC)
 |114,[_]=>some (zje s)
 |f,l=>frM f l
noncomputable def z19c (s:SState) (n:Nat):Cfg:={cfgM n fun _ _=>false with fresh:=frTo s}
theorem z33 (s:SState) (n:Nat):z1d (z19c s n):=z3g (by kernel_rfl)
noncomputable def vTo (p:PProg) (s:SState) (k:Nat) (e:Ev) (n:Nat) (inv:Nat ->Option Inv):VCtx:={C:=z19c s n,CC:=Known Tryz.prog GG,orc:=fun _ _=>oTo p s k e,inv:=inv}
abbrev z19d (s:SState) (k:Int):BoxC:= .cell 155 plSh (z19b s k)
def InS (s:SState) (k:Nat):Prop:=k<s.thr.length/\k<s.bufs.length
end
end Go.Proofs.S25
