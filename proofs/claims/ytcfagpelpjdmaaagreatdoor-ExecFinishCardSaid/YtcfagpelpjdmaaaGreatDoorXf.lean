import Derived.Test.YtcfagpelpjdmaaaGreatDoorXe
namespace Go.AV
open Go.RowKit
section
variable {C:Cfg} {W0:Entry} {F0:Nat ->Prop} {st st':St} {a:Act} {w:World} {F:Nat ->Prop} {φ:Nat ->Place} {e:Operand ->Option AV} {dst:Option Nat} {orc:FuncId ->List AV ->Option AV} {CC:FuncId ->List AV ->AV ->Prop} {r:Res} {o:Oper}
 {next:Act ->World ->Prop} {Q:Exit ->Act ->World ->Prop}
def zi8 (w:World) (F:Nat ->Prop) (v:Value) (sh:Shape) (m:Nat) (g:Nat ->AV):Prop:=
 ∃ A c,v= .slice A m c/\(0<m ->∃ b o,∃ cs:Nat ->Nat ->Value,A=some ⟨b,o,none⟩/\(∀ i,i<m ->∀ j,j<sh.size ->w.cell? ⟨b,o+(i*sh.size+j),none⟩=some (cs i j))/\
  (∀ i,i<m ->∀ j,j<sh.size ->RepS w F (cs i j) (z6 sh (g i) j)))
theorem zbu {v:Value} {sh:Shape} {m:Nat} {g:Nat ->AV} (h:Rep w F φ v (.seq sh m g)∨Rep w F φ v (.seqc sh m g)):zi8 w F v sh m g:=by
 obtain⟨A,c,hv,hc⟩:=Rep.seq_inv h
 exact⟨A,c,hv,fun hm=>by obtain⟨_,b,o,cs,h1,_,h2,h3⟩:=hc hm;exact⟨b,o,cs,h1,h2,h3⟩⟩
theorem zk4 {v:Value} {sh:Shape} {g:Nat ->AV} (h:Rep w F φ v .nils):zi8 w F v sh 0 g:=by
 cases h with
 |stat h=>cases h;exact⟨_,_,rfl,fun h=>absurd h (by omega)⟩
theorem zzn (h:Rel C W0 F0 st a w F φ) {v:Value} {b m n':Nat} {ty:TypeId} {sh:Shape} {g:Nat ->AV} (hv:Rep w F φ v (.own b m)) (hb:get st.heap b=some (.row ty sh n' g)) (hm:m<=n'):zi8 w F v sh m g:=by
 obtain⟨hsh,_,hrow⟩:=h.heap b _ hb
 rcases hv.own_inv with⟨gb,hg,rfl,hc⟩ | ⟨hg,h0,rfl⟩
 . rcases hrow with⟨h1,_⟩ | ⟨g',cs,hg',_,_,hh,hsz,hnc,_,hrep⟩
   . rw[hg]at h1;cases h1
   . obtain rfl:g'=gb:=by rw[hg]at hg';injection hg' with e;exact e.symm
     refine⟨_,_,rfl,fun hm0=>⟨g',0,fun i j=>cs.getD (i*sh.size+j) undef,rfl,fun i hi j hj=>?_,fun i hi j hj=>hrep i (by omega) j hj⟩⟩
     have hmul:(i+1)*sh.size<=(φ b).cap*sh.size:=Nat.mul_le_mul_right _ (by omega)
     rw[Nat.add_mul]at hmul
     rw[Nat.zero_add];exact z3q hh (by omega)
 . subst h0;exact⟨_,_,rfl,fun h=>absurd h (by omega)⟩
theorem zb4 {v:Value} {sh:Shape} {m:Nat} {g:Nat ->AV} (h:zi8 w F v sh m g) (hpos:0<sh.size):∃ A c,∃ news:List Value,v= .slice A m c/\news.length=m*sh.size/\(0<m ->∃ ad,A=some ad/\∀ j u,news[j]? =some u ->w.cell? (ad.add j)=some u)/\
 (∀ i,i<m ->∀ j,j<sh.size ->∃ u,news[i*sh.size+j]? =some u/\RepS w F u (z6 sh (g i) j))/\∀ u∈news,u.oneCell'=true:=by
 obtain⟨A,c,hv,hc⟩:=h
 rcases Nat.eq_zero_or_pos m with h0 |h0
 . subst h0
   exact⟨A,c,[],hv,by simp,fun h=>absurd h (by omega),fun i hi=>absurd hi (by omega),fun u hu=>by simp at hu⟩
 . obtain⟨b,o,cs,hA,h1,h2⟩:=hc h0
   have hix:∀ i j,i<m ->j<sh.size ->i*sh.size+j<m*sh.size:=by
    intro i j hi hj
    have hmul:(i+1)*sh.size<=m*sh.size:=Nat.mul_le_mul_right _ hi
    rw[Nat.add_mul]at hmul;omega
   have hdm:∀ i j,j<sh.size ->(i*sh.size+j)/sh.size=i/\(i*sh.size+j) % sh.size=j:=by
    intro i j hj
    rw[Nat.mul_comm i,Nat.mul_add_div hpos,Nat.mul_add_mod,Nat.div_eq_of_lt hj,Nat.mod_eq_of_lt hj]
    exact⟨rfl,rfl⟩
   have hget:∀ q,q<m*sh.size ->((List.range (m*sh.size)).map fun q=>cs (q/sh.size) (q % sh.size))[q]? =some (cs (q/sh.size) (q % sh.size)):=by
    intro q hq;simp[hq]
   refine⟨A,c,(List.range (m*sh.size)).map fun q=>cs (q/sh.size) (q % sh.size),hv,by simp,fun _=>⟨_,hA,fun q u hu=>?_⟩,fun i hi j hj=>⟨_,hget _ (hix i j hi hj), ?_⟩,fun u hu=>?_⟩
   . have hq:q<m*sh.size:=by have :=(List.getElem?_eq_some_iff.1 hu).1;simpa using this
     rw[hget q hq]at hu
     cases hu
     rw[z5g]
     have :=h1 (q/sh.size) ((Nat.div_lt_iff_lt_mul hpos).2 hq) (q % sh.size) (Nat.mod_lt _ hpos)
     rw[Nat.mul_comm,Nat.div_add_mod]at this
     exact this
   . obtain⟨d1,d2⟩:=hdm i j hj
     rw[d1,d2];exact h2 i hi j hj
   . simp only[List.mem_map,List.mem_range]at hu
     obtain⟨q,hq,rfl⟩:=hu
     exact RepS.leaf1 sh _ _ (h2 (q/sh.size) ((Nat.div_lt_iff_lt_mul hpos).2 hq) (q % sh.size) (Nat.mod_lt _ hpos))
theorem Rel.addBox (h:Rel C W0 F0 st a w F φ) {d:Nat} {c:BoxC} (hf:z1q st d=true) (hc:c.names d=false) (pl:Place)
 (hpl:∀ b c' g,get st.heap b=some c' ->(φ b).blk=some g ->pl.blk≠some g)
 (hB:z24 w F (fun k=>if k=d then pl else φ k) W0.B d c):
 Rel C W0 F0 {st with heap:=put st.heap d c} a w F (fun k=>if k=d then pl else φ k):=by
 simp only[z1q,Bool.not_eq_true',Bool.or_eq_false_iff]at hf
 obtain⟨fe,fh,fl⟩:=hf
 refine⟨fun s x hs=>?_,fun b c' hc'=>?_, ?_,h.ro,h.base,h.sub,h.new,h.dfr,h.tsz,h.glob,zi0 h.anc fl⟩
 . obtain⟨v,hv,hr⟩:=h.env s x hs
   refine⟨v,hv,hr.keep (fun _ _=>rfl) (fun _ hk=>hk) fun b hb=>z1m φ d pl fun e=>?_⟩
   subst e
   rw[z3t hs fe]at hb;cases hb
 . by_cases e:b=d
   . subst e
     rw[zv]at hc'
     cases hc'
     exact hB
   . rw[zb _ _ _ _ e]at hc'
     have hb:=h.heap b c' hc'
     refine hb.keep (fun _ _=>rfl) (fun _ hk=>hk) (fun g hg=>⟨rfl,(hb.lt hg).2.1⟩) (z1m φ d pl e) fun b' hb'=>z1m φ d pl fun e=>?_
     subst e
     rw[(z2r hc' fh).1]at hb';cases hb'
 . intro b b' c1 c2 g h1 h2 h3 h4
   by_cases e:b=d
   . by_cases e':b'=d
     . omega
     . rw[zb _ _ _ _ e']at h2
       simp only[e,if_true]at h3
       simp only[e',if_false]at h4
       exact absurd h3 (hpl b' c2 g h2 h4)
   . rw[zb _ _ _ _ e]at h1
     simp only[e,if_false]at h3
     by_cases e':b'=d
     . simp only[e',if_true]at h4
       exact absurd h4 (hpl b c1 g h1 h3)
     . rw[zb _ _ _ _ e']at h2
       simp only[e',if_false]at h4
       exact h.inj b b' c1 c2 g h1 h2 h3 h4
theorem z8h {b:Nat}:∀ {l:List (Nat×AV)} {s:Nat} {x:AV},get (z8a b l) s=some x ->∃ y,get l s=some y/\((y=x/\x.names b=false)∨x= .when false .any)
 | [],_,_,h=>by simp[z8a,get]at h
 | (k,v)::l,s,x,h=>by
  simp only[z8a,get]at h ⊢
  split at h
  . refine⟨v,rfl, ?_⟩
    cases h
    split
    . exact .inr rfl
    . rename_i hn;exact .inl ⟨rfl,hn⟩
  . exact z8h h
mutual
theorem z8i {b:Nat}:∀ (sh:Shape) (x:AV) (j:Nat),(z6 sh (x.kill b) j=z6 sh x j/\(z6 sh x j).names b=false)∨z6 sh (x.kill b) j= .any
 | .leaf,x,j=>by
  simp only[z6]
  cases x with
  |own c n=>simp only[AV.kill];cases h:Nat.beq c b<;>simp[h,z1g,AV.isOne,AV.names]
  |ptr c n=>simp only[AV.kill];cases h:Nat.beq c b<;>simp[h,z1g,AV.isOne,AV.names]
  |optr c i n=>simp only[AV.kill];cases h:Nat.beq c b<;>simp[h,z1g,AV.isOne,AV.names]
  |ownx c i n q=>simp only[AV.kill];cases h:Nat.beq c b<;>simp[h,z1g,AV.isOne,AV.names]
  |clo f l=>simp only[AV.kill];cases h:AV.namesL b l<;>simp[h,z1g,AV.isOne,AV.names]
  |_=>simp[AV.kill,z1g,AV.isOne,AV.names]
 | .agg ss,x,j=>by
  cases x with
  |agg xs=>simp only[AV.kill,z6];exact zai ss xs j
  |own c n=>right;simp only[AV.kill];cases h:Nat.beq c b<;>simp[z6]
  |ptr c n=>right;simp only[AV.kill];cases h:Nat.beq c b<;>simp[z6]
  |optr c i n=>right;simp only[AV.kill];cases h:Nat.beq c b<;>simp[z6]
  |ownx c i n q=>right;simp only[AV.kill];cases h:Nat.beq c b<;>simp[z6]
  |clo f l=>right;simp only[AV.kill];cases h:AV.namesL b l<;>simp[z6]
  |_=>right;simp[AV.kill,z6]
 | .arr n s,x,j=>by
  cases x with
  |arr m f=>left;simp[AV.kill,z6,AV.names]
  |own c n=>right;simp only[AV.kill];cases h:Nat.beq c b<;>simp[z6]
  |ptr c n=>right;simp only[AV.kill];cases h:Nat.beq c b<;>simp[z6]
  |optr c i n=>right;simp only[AV.kill];cases h:Nat.beq c b<;>simp[z6]
  |ownx c i n q=>right;simp only[AV.kill];cases h:Nat.beq c b<;>simp[z6]
  |clo f l=>right;simp only[AV.kill];cases h:AV.namesL b l<;>simp[z6]
  |_=>right;simp[AV.kill,z6]
theorem zai {b:Nat}:∀ (ss:List Shape) (xs:List AV) (j:Nat),(zh ss (AV.killL b xs) j=zh ss xs j/\(zh ss xs j).names b=false)∨zh ss (AV.killL b xs) j= .any
 |s::ss,x::xs,j=>by
  simp only[AV.killL,zh]
  split
  . exact z8i s x j
  . exact zai ss xs _
 | [],_,_=>by right;cases ‹List AV› <;>simp[zh]
 |_::_,[],_=>by right;simp[AV.killL,zh]
end
theorem z37 {b:Nat}:∀ {l:List (Nat×BoxC)} {s:Nat} {c:BoxC},get (z65 b l) s=some c ->∃ d,get l s=some d/\c=d.kill b
 | [],_,_,h=>by simp[z65,get]at h
 | (k,v)::l,s,c,h=>by
  simp only[z65,get]at h ⊢
  split at h
  . cases h;exact⟨v,rfl,rfl⟩
  . exact z37 h
theorem zdq {b:Nat} {c:BoxC}:(c.kill b).isRow=c.isRow:=by
 cases c with
 |cell tc sh x=>simp only[BoxC.kill];split<;>rfl
 |row=>rfl
theorem z24.keepKill {w w':World} {F F':Nat ->Prop} {φ φ':Nat ->Place} {base:Nat ->Prop} {b d:Nat} {c:BoxC} (h:z24 w F φ base b c) (hw:∀ k,F k ->w'.heap[k]? =w.heap[k]?) (hF:∀ k,F k ->F' k)
 (hg:∀ g,(φ b).blk=some g ->w'.heap[g]? =w.heap[g]? /\¬ F' g) (hb:φ' b=φ b) (hφ:∀ e,e≠d ->φ' e=φ e):z24 w' F' φ' base b (c.kill d):=by
 cases c with
 |cell tc sh x=>
  simp only[BoxC.kill]
  cases hn:x.names d with
  |false=>exact h.keep hw hF hg hb fun e he=>hφ e fun e'=>by subst e';simp only[BoxC.names]at he;rw[hn]at he;cases he
  |true=>
   obtain⟨h0,g,cs,h1,h2,h3,h4,h5,h6⟩:=h
   refine⟨by rw[hb];exact h0,g,cs,by rw[hb];exact h1,h2,(hg g h1).2,(hg g h1).1.trans h4,h5,fun j hj=>?_⟩
   rcases z8i (b:=d) sh x j with⟨k1,k2⟩ |k1
   . rw[k1]
     exact(h6 j hj).keep hw hF fun e he=>hφ e fun e'=>by subst e';rw[k2]at he;cases he
   . rw[k1]
     exact .stat (.any _ (Rep.leaf1 sh x j (h6 j hj)))
 |row ty sh n f=>exact h.keep hw hF hg hb fun e he=>by simp[BoxC.names]at he
theorem Rel.growBox (h:Rel C W0 F0 st a w F φ) {b:Nat} {c c':BoxC} {w':World} {row:Option Nat} (hb:get st.heap b=some c) (hg:w.grownBy w' row)
 (hkd:c.isRow=true) (hrow:∀ g,row=some g ->(φ b).blk=some g) (pl:Place) (hpl:∀ g,pl.blk=some g ->(φ b).blk=some g∨w.heap.size<=g) (hB:z24 w' F (fun k=>if k=b then pl else φ k) W0.B b c'):
 Rel C W0 F0 {env:=z8a b st.env,heap:=put (z65 b st.heap) b c'} a w' F (fun k=>if k=b then pl else φ k):=by
 have hfar:∀ k,k<w.heap.size ->(∀ g,(φ b).blk=some g ->k≠g) ->w'.heap[k]? =w.heap[k]? :=fun k hk hne=>hg.block k hk fun e=>hne k (hrow k e.symm) rfl
 have hk:∀ k,F k ->w'.heap[k]? =w.heap[k]? :=fun k hk=>hfar k (h.ro k hk) fun g hgb e=>((h.heap b c hb).lt hgb).2.1 (e ▸ hk)
 have hother:∀ b' c1 g,b'≠b ->get st.heap b'=some c1 ->(φ b').blk=some g ->w'.heap[g]? =w.heap[g]? :=fun b' c1 g hne hb' hg'=>
  hfar g ((h.heap b' c1 hb').lt hg').1 fun g2 hg2 e=>hne (h.inj b' b c1 c g hb' hb hg' (e ▸ hg2))
 refine⟨fun s x hs=>?_,fun b' c1 hc1=>?_, ?_,fun k hk=>Nat.lt_of_lt_of_le (h.ro k hk) hg.size, ?_,h.sub,h.new,h.dfr,h.tsz,fun g x hgx=>(h.glob g x hgx).keep hk fun _ hk=>hk,fun b' p hp=>?_⟩
 . obtain⟨y,hy,hyx⟩:=z8h hs
   obtain⟨v,hv,hr⟩:=h.env s y hy
   rcases hyx with⟨rfl,hn⟩ |rfl
   . refine⟨v,hv,hr.keep hk (fun _ hk=>hk) fun d hd=>z1m φ b pl fun e=>?_⟩
     subst e;rw[hn]at hd;cases hd
   . exact⟨v,hv, .whenT false (fun h=>by cases h) fun _=> .inr rfl⟩
 . by_cases e:b'=b
   . subst e
     rw[zv]at hc1
     cases hc1
     exact hB
   . rw[zb _ _ _ _ e]at hc1
     obtain⟨c0,hc0,rfl⟩:=z37 hc1
     have hb':=h.heap b' c0 hc0
     exact hb'.keepKill hk (fun _ hk=>hk) (fun g hg'=>⟨hother b' c0 g e hc0 hg',(hb'.lt hg').2.1⟩) (z1m φ b pl e) fun d hd=>z1m φ b pl hd
 . intro b1 b2 c1' c2' g h1' h2' h3 h4
   have new:∀ b' c1 g,b'≠b ->get st.heap b'=some c1 ->(φ b').blk=some g ->pl.blk≠some g:=by
    intro b' c1 g hne hb' hg' hp
    rcases hpl g hp with h5 |h5
    . exact hne (h.inj b' b c1 c g hb' hb hg' h5)
    . have :=((h.heap b' c1 hb').lt hg').1;omega
   by_cases e:b1=b
   . by_cases e':b2=b
     . omega
     . rw[zb _ _ _ _ e']at h2'
       obtain⟨c2,h2,_⟩:=z37 h2'
       simp only[e,if_true]at h3
       simp only[e',if_false]at h4
       exact absurd h3 (new b2 c2 g e' h2 h4)
   . rw[zb _ _ _ _ e]at h1'
     obtain⟨c1,h1,_⟩:=z37 h1'
     simp only[e,if_false]at h3
     by_cases e':b2=b
     . simp only[e',if_true]at h4
       exact absurd h4 (new b1 c1 g e h1 h3)
     . rw[zb _ _ _ _ e']at h2'
       obtain⟨c2,h2,_⟩:=z37 h2'
       simp only[e',if_false]at h4
       exact h.inj b1 b2 c1 c2 g h1 h2 h3 h4
 . refine h.base.trans (L':=fun k=>row=some k) ⟨hg.os,hg.tape,hg.output,hg.size,fun k hk hn=>hg.block k hk fun e=>hn e.symm⟩ fun i hi hlt=>?_
   exact(((h.heap b c hb).lt (hrow i hi)).2.2).resolve_left (by omega)
 . obtain⟨a1,a2,a3⟩:=h.anc b' p hp
   have hne:b'≠b:=fun e=>by subst e;rw[a3 c hb]at hkd;cases hkd
   refine⟨a1,by simp only[hne,if_false];exact a2,fun c1 hc1=>?_⟩
   rw[zb _ _ _ _ hne]at hc1
   obtain⟨c0,hc0,rfl⟩:=z37 hc1
   rw[zdq];exact a3 c0 hc0
theorem z5h {B:Nat ->Prop} {base b n:Nat} {el:TypeId} {sh:Shape} {f:Nat ->AV} {v:Value} {xs:List Value} (hown:w.ownsRow base el sh.size v n xs)
 (hbn:∀ k,v.ownBlock=some k ->B k) (hF:∀ k,v.ownBlock=some k ->¬ F k) (hx:∀ i,i<n ->∀ j,j<sh.size ->∃ u,xs[i*sh.size+j]? =some u/\RepS w F u (z6 sh (f i) j)):
 ∃ pl:Place,pl.blk=v.ownBlock/\pl.sh=sh/\pl.ty=el/\∀ φ:Nat ->Place,φ b=pl ->z24 w F φ B b (.row el sh n f)/\Rep w F φ v (.own b n):=by
 rcases hown.2 with⟨rfl,rfl⟩ | ⟨g,cap,cur,rfl,hbg,hg,hnc,hcm,hcs,htake⟩
 . exact⟨⟨none,0,sh,el⟩,rfl,rfl,rfl,fun φ hφ=>⟨⟨by rw[hφ],by rw[hφ], .inl ⟨by rw[hφ],rfl⟩⟩, .own0 b (by rw[hφ])⟩⟩
 . refine⟨⟨some g,cap,sh,el⟩,rfl,rfl,rfl,fun φ hφ=>⟨⟨by rw[hφ],by rw[hφ], .inr ⟨g,cur,by rw[hφ],hbn g rfl,hF g rfl,hg,by rw[hφ];exact hcs,by rw[hφ];exact hnc,by rw[hφ];exact hcm,fun i hi j hj=>?_⟩⟩, ?_⟩⟩
   . obtain⟨u,hu,hr⟩:=hx i hi j hj
     rw[<- htake]at hu
     have hmul:(i+1)*sh.size<=n*sh.size:=Nat.mul_le_mul_right _ hi
     rw[Nat.add_mul]at hmul
     rw[List.getElem?_take_of_lt (by omega),Array.getElem?_toList]at hu
     rw[Array.getD_eq_getD_getElem?,hu]
     exact hr
   . have :=Rep.own (w:=w) (F:=F) (φ:=φ) b g n (by rw[hφ]) (by rw[hφ];exact hnc)
     rw[hφ]at this
     exact this
theorem zml {B:Nat ->Prop} {b n m:Nat} {el:TypeId} {sh:Shape} {f:Nat ->AV} {v:Value} (hB:z24 w F φ B b (.row el sh n f)) (hv:Rep w F φ v (.own b m)) (hm:m=n):
 ∃ xs,w.ownsRow 0 el sh.size v n xs/\(∀ k,v.ownBlock=some k ->(φ b).blk=some k)/\∀ i,i<n ->∀ j,j<sh.size ->∃ u,xs[i*sh.size+j]? =some u/\RepS w F u (z6 sh (f i) j):=by
 subst hm
 obtain⟨hsh,hty,hrow⟩:=hB
 rcases hv.own_inv with⟨g,hg,rfl,hc⟩ | ⟨hg,h0,rfl⟩
 . rcases hrow with⟨h1,_⟩ | ⟨g',cs,hg',hbase,_,hh,hsz,hnc,hmax,hrep⟩
   . rw[hg]at h1;cases h1
   . obtain rfl:g'=g:=by rw[hg]at hg';injection hg' with e;exact e.symm
     have hmul:m*sh.size<=(φ b).cap*sh.size:=Nat.mul_le_mul_right _ hnc
     refine⟨cs.toList.take (m*sh.size),⟨by simp;omega, .inr ⟨g',_,cs,rfl,Nat.zero_le _,hh,hnc,hmax,hsz,rfl⟩⟩,fun k hk=>by simp[Value.ownBlock]at hk;subst hk;exact hg,fun i hi j hj=>⟨_, ?_,hrep i hi j hj⟩⟩
     have hmul2:(i+1)*sh.size<=m*sh.size:=Nat.mul_le_mul_right _ hi
     rw[Nat.add_mul]at hmul2
     rw[List.getElem?_take_of_lt (by omega),Array.getElem?_toList,Array.getD_eq_getD_getElem?,Array.getElem?_eq_getElem (by omega),Option.getD_some]
 . subst h0
   exact⟨[],World.ownsRow_nil _ _ _ _,fun k hk=>by simp[Value.ownBlock]at hk,fun i hi=>absurd hi (by omega)⟩
theorem zbv {P:Program} (base:Nat) (t ty e:TypeId) (i:TypeInfo) (size:Nat) (ht:P.underlying t=some (.slice e)) (hi:P.info? e=some i)
 (v:Value) (n:Nat) (xs:List Value) (hown:w.ownsRow base e size v n xs) (c:Nat):(Builtin.append_ #[t,t] ty #[v, .slice none 0 c]).run P w= .ok v w:=by
 rcases hown.2 with⟨rfl,rfl⟩ | ⟨g,cap,cur,rfl,_,_,hnc,_⟩
 . simp[Builtin.append_,run_underlying ht,sizeOf,typeInfo,hi,Builtin.lenOf,Builtin.firstCells]
 . simp[Builtin.append_,run_underlying ht,sizeOf,typeInfo,hi,Builtin.lenOf,Builtin.firstCells,hnc,storeCells]
theorem zdr {el t ty:TypeId} {tl:TyE} (hT:z1d C) (htl:tyOf C el=some tl) (hu:C.P.underlying t=some (.slice el)) {base n m:Nat} {v u:Value} {xs:List Value} {g:Nat ->AV} {sh:Shape} (hsh:sh=tl.sh) (hown:w.ownsRow base el sh.size v n xs)
 (hs:zi8 w F u sh m g) (h63:n+m<=9223372036854775807) (hbytes:((n+m:Nat):Int)*tl.bytes<=140737488355328) (hbase:base<=w.heap.size):
 ∃ v' w' news,(Builtin.append_ #[t,t] ty #[v,u]).run C.P w= .ok v' w'/\w'.ownsRow base el sh.size v' (n+m) (xs++news)/\w.grownBy w' v.ownBlock/\(v'.ownBlock=v.ownBlock∨v'.ownBlock=some w.heap.size)/\
  (∀ i,i<m ->∀ j,j<sh.size ->∃ u,news[i*sh.size+j]? =some u/\RepS w F u (z6 sh (g i) j)):=by
 subst hsh
 have Tl:=hT _ _ htl
 obtain⟨dd,ie,z,hue,hie,hse,hbe,hz,hzs,_,hzr⟩:=Tl.info
 obtain⟨A,c,news,rfl,hl,hA,hn,h1⟩:=zb4 hs Tl.pos
 have hb2:(n+m)*tl.bytes<=140737488355328:=by
  have :(((n+m)*tl.bytes:Nat):Int)<=140737488355328:=by rw[Int.natCast_mul];exact hbytes
  omega
 rcases Nat.eq_zero_or_pos m with h0 |h0
 . subst h0
   have hn0:news=[]:=List.eq_nil_of_length_eq_zero (by simpa using hl)
   subst hn0
   cases A with
   |none=>exact⟨v,w,[],zbv base t ty el ie _ hu hie v n xs hown c,by simpa using hown,World.grownBy.refl w _, .inl rfl,hn⟩
   |some ad=>
    obtain⟨v',w',hr,h2,h3,_,h5⟩:=run_append_own_at (P:=C.P) w base t ty el ie z _ _ hu hie hz hse hbe hzs Tl.pos v n xs hown ad 0 c [] (by simp) (fun j u hj=>by simp at hj) (by simp) (by unfold maxLen;omega) hb2 hbase
    exact⟨v',w',[],hr,h2,h3,h5,hn⟩
 . obtain⟨ad,rfl,hc⟩:=hA h0
   obtain⟨v',w',hr,h2,h3,_,h5⟩:=run_append_own_at (P:=C.P) w base t ty el ie z _ _ hu hie hz hse hbe hzs Tl.pos v n xs hown ad m c news hl hc h1 (by unfold maxLen;omega) hb2 hbase
   exact⟨v',w',news,hr,h2,h3,h5,hn⟩
theorem zaj {n m:Nat} {sh:Shape} {f g:Nat ->AV} {xs news:List Value} (hl:xs.length=n*sh.size) (hx:∀ i,i<n ->∀ j,j<sh.size ->∃ u,xs[i*sh.size+j]? =some u/\RepS w F u (z6 sh (f i) j))
 (hn:∀ i,i<m ->∀ j,j<sh.size ->∃ u,news[i*sh.size+j]? =some u/\RepS w F u (z6 sh (g i) j)):
 ∀ i,i<n+m ->∀ j,j<sh.size ->∃ u,(xs++news)[i*sh.size+j]? =some u/\RepS w F u (z6 sh (if i<n then f i else g (i - n)) j):=by
 intro i hi j hj
 by_cases h:i<n
 . have hmul:(i+1)*sh.size<=n*sh.size:=Nat.mul_le_mul_right _ h
   rw[Nat.add_mul]at hmul
   rw[List.getElem?_append_left (by omega),if_pos h]
   exact hx i h j hj
 . have e:i*sh.size=n*sh.size+(i - n)*sh.size:=by rw[<- Nat.add_mul];congr 1;omega
   rw[List.getElem?_append_right (by omega),if_neg h,hl,show i*sh.size+j - n*sh.size=(i - n)*sh.size+j from by omega]
   exact hn (i - n) (by omega) j hj
theorem zng {c:Call} (h:Rel C W0 F0 st a w F φ) (hT:z1d C) (ho:o.op= .call c) (hc:c.callee= .builtin .append) (hr:zl C st e o.dst orc CC (.call c)=some r)
 (hx:∀ x∈c.args.toList,∀ u,e x=some u ->Rep w F φ (a.eval x) u) (hob:∀ p∈r.obs,p) (hst:zx st o.dst r.eff=some st') (hn:Next C W0 F0 st' a o r.val next):o.wp C.P a w next Q:=by
 simp only[zl,hc]at hr
 split at hr
 case h_2=>cases hr
 rename_i x y t t' d hargs htys hd
 split at hr
 case h_2=>cases hr
 rename_i te v u h1 htt h2 h3
 have :=Nat.eq_of_beq_eq_true htt
 subst this
 split at hr
 case h_2=>cases hr
 rename_i el hkind
 split at hr
 case h_2=>cases hr
 rename_i tl htl
 split at hr
 case h_2=>cases hr
 rename_i su m g ps hsrc
 have ea:c.args=#[x,y]:=by rw[<- Array.toArray_toList (xs:=c.args),hargs]
 have et:c.argTypes=#[t,t]:=by rw[<- Array.toArray_toList (xs:=c.argTypes),htys]
 have T:=hT _ _ h1
 have Tl:=hT _ _ htl
 have hu:=z4a T hkind
 have hV:=hx x (by rw[hargs];simp) v h2
 have hU:=hx y (by rw[hargs];simp) u h3
 have fin:∀ {v':Value} {w':World},(Builtin.append_ #[t,t] o.type #[a.eval x,a.eval y]).run C.P w= .ok v' w' ->next (a.put o.dst v') w' ->o.wp C.P a w next Q:=by
  intro v' w' hrun hnx
  unfold Oper.wp
  have :(execOp a.eval o).run C.P w= .ok (.value v') w':=by
   refine z3u ho hc ?_
   rw[ea,et]
   simp only[builtin,Sem.run_bind]
   have :(#[x,y].map a.eval)=#[a.eval x,a.eval y]:=by simp
   rw[this,hrun]
   rfl
  rw[this]
  exact hnx
 have grow2:∀ {w':World},w.grownBy w' none ->Below w.heap.size w w':=fun hg=>(Below.refl _ _).grown hg (Nat.le_refl _) (by simp)
 have hs:(∀ p∈ps,p) ->zi8 w F (a.eval y) su m g:=by
  intro hps
  cases u<;>simp only[Option.some.injEq,Prod.mk.injEq,reduceCtorEq]at hsrc
  . obtain⟨rfl,rfl,rfl,rfl⟩:=hsrc;exact zk4 hU
  . obtain⟨rfl,rfl,rfl,rfl⟩:=hsrc;exact zbu (.inl hU)
  . obtain⟨rfl,rfl,rfl,rfl⟩:=hsrc;exact zbu (.inr hU)
  . split at hsrc
    . rename_i hb
      simp only[Option.some.injEq,Prod.mk.injEq]at hsrc
      obtain⟨rfl,rfl,rfl,rfl⟩:=hsrc
      exact zzn h hU hb (hps _ (by simp))
    . cases hsrc
 have VX:∃ vx,vx=a.eval x:=⟨_,rfl⟩
 obtain⟨vx,hvx⟩:=VX
 rw[<- hvx]at hV
 have finNew:∀ {v':Value} {w':World} {n:Nat} {f:Nat ->AV} {xs:List Value},(Builtin.append_ #[t,t] o.type #[a.eval x,a.eval y]).run C.P w= .ok v' w' ->w'.ownsRow 0 el su.size v' n xs ->w.grownBy w' none ->
  (v'.ownBlock=none∨v'.ownBlock=some w.heap.size) ->(∀ i,i<n ->∀ j,j<su.size ->∃ u,xs[i*su.size+j]? =some u/\RepS w F u (z6 su (f i) j)) ->zx st o.dst (.new (.row el su n f))=some st' ->r.val= .own d n ->o.wp C.P a w next Q:=by
  intro v' w' n f xs hrun h4 h5 h6 h7 hst hval
  refine fin hrun ?_
  have hb:=grow2 h5
  have hR:=h.grown hb (fun _ hk=>hk) (fun k hk=> .inl hk) fun k hk=>Nat.lt_of_lt_of_le (h.ro k hk) hb.size
  have hkeep:∀ k,F k ->w'.heap[k]? =w.heap[k]? :=fun k hk=>hb.block k (h.ro k hk)
  obtain⟨pl,p1,p2,p3,p4⟩:=z5h (F:=F) (B:=W0.B) (base:=0) (b:=d) (f:=f) h4 (fun k hk=>by
   rcases h6 with h6 |h6
   . rw[h6]at hk;cases hk
   . rw[h6]at hk;cases hk;exact h.bnew (Nat.le_refl _)) (fun k hk hF=>by
   rcases h6 with h6 |h6
   . rw[h6]at hk;cases hk
   . rw[h6]at hk;cases hk;have :=h.ro _ hF;omega) (fun i hi j hj=>by
     obtain⟨uu,hu1,hu2⟩:=h7 i hi j hj
     exact⟨uu,hu1,hu2.keep hkeep fun _ hk=>hk⟩)
  rw[hd]at hst
  simp only[zx]at hst
  split at hst
  case h_2=>cases hst
  rename_i hfr
  cases hst
  simp only[Bool.and_eq_true,Bool.not_eq_true']at hfr
  obtain⟨B1,B2⟩:=p4 (fun k=>if k=d then pl else φ k) (by simp)
  refine hn v' w' F _ (hR.addBox hfr.1 hfr.2 pl (fun b c' gg hb' hg' hp=>?_) B1) fun _=>by rw[hval];exact B2
  rw[p1]at hp
  rcases h6 with h6 |h6
  . rw[h6]at hp;cases hp
  . rw[h6]at hp;cases hp;have :=((h.heap b c' hb').lt hg').1;omega
 have finLay:∀ {v':Value} {w':World} {n:Nat} {f:Nat ->AV} {xs:List Value},(Builtin.append_ #[t,t] o.type #[a.eval x,a.eval y]).run C.P w= .ok v' w' ->w'.ownsRow 0 el su.size v' n xs ->w.grownBy w' none ->
  (v'.ownBlock=none∨v'.ownBlock=some w.heap.size) ->(∀ i,i<n ->∀ j,j<su.size ->∃ u,xs[i*su.size+j]? =some u/\RepS w F u (z6 su (f i) j)) ->zx st o.dst .none=some st' ->r.val= .seq su n f ->o.wp C.P a w next Q:=by
  intro v' w' n f xs hrun h4 h5 h6 h7 hst hval
  refine fin hrun ?_
  simp only[zx,Option.some.injEq]at hst
  subst hst
  have hb:=grow2 h5
  have hkeep:∀ k,F k ->w'.heap[k]? =w.heap[k]? :=fun k hk=>hb.block k (h.ro k hk)
  obtain⟨hlen,⟨rfl,rfl⟩ | ⟨g0,cap,cur,rfl,_,hc1,hc2,hc3,hc4,hc5⟩⟩:=h4
  . have hR:=h.grown hb (fun _ hk=>hk) (fun k hk=> .inl hk) fun k hk=>Nat.lt_of_lt_of_le (h.ro k hk) hb.size
    refine hn _ _ F φ hR fun _=>?_
    rw[hval];exact .stat (.seq0 _ _ _ _)
  . have hg:g0=w.heap.size:=by
     rcases h6 with h6 |h6
     . cases h6
     . cases h6;rfl
    subst hg
    have hsz:w.heap.size<w'.heap.size:=(Array.getElem?_eq_some_iff.1 hc1).1
    refine hn _ _ (fun k=>F k∨k=w.heap.size) φ (h.grown hb (fun k hk=> .inl hk) (fun k hk=>hk.imp id fun e=>by omega) fun k hk=>?_) fun _=>?_
    . rcases hk with hk |rfl
      . exact Nat.lt_of_lt_of_le (h.ro k hk) hb.size
      . exact hsz
    . rw[hval]
      have lt:∀ i,i<n ->∀ j,j<su.size ->i*su.size+j<n*su.size:=fun i hi j hj=>by
       have hmul:=Nat.mul_le_mul_right su.size (show i+1<=n from hi)
       rw[Nat.add_mul]at hmul;omega
      refine .stat (.seq w.heap.size 0 n cap _ _ (fun i j=>cur.getD (i*su.size+j) undef) (.inr rfl) hc2 (fun i hi j hj=>?_) fun i hi j hj=>?_)
      . have hmul2:=Nat.mul_le_mul_right su.size hc2
        have :=lt i hi j hj
        rw[Nat.zero_add];exact z3q hc1 (by rw[hc4];omega)
      . obtain⟨uu,hu1,hu2⟩:=h7 i hi j hj
        have :cur.getD (i*su.size+j) undef=uu:=by
         rw[<- hc5,List.getElem?_take_of_lt (lt i hi j hj),Array.getElem?_toList]at hu1
         rw[Array.getD_eq_getD_getElem?,hu1];rfl
        rw[this];exact hu2.keep hkeep fun _ hk=> .inl hk
 split at hr
 . -- nil
   rename_i hcond
   simp only[Bool.and_eq_true]at hcond
   have es:=Shape.same_eq _ _ hcond.1
   have hps:∀ p∈ps,p:=fun p hp=>hob p (by(repeat' split at hr)<;>(cases hr;simp[hp]))
   have hVn:vx= .slice none 0 0:=by cases hV with |stat hV=>cases hV;rfl
   have go:=fun(hh:(m:Int)*tl.bytes<=140737488355328/\m<=9223372036854775807)=>zdr (ty:=o.type) hT htl hu es (World.ownsRow_nil w 0 el su.size) (hs hps) (by omega) (by rw[Nat.zero_add];exact hh.1) (Nat.zero_le _)
   split at hr
   . cases hr
     obtain⟨v',w',news,hrun,h4,h5,h6,h7⟩:=go (hob _ (by simp))
     rw[<- hVn,hvx]at hrun
     rw[Nat.zero_add,List.nil_append]at h4
     exact finNew hrun h4 h5 h6 h7 hst rfl
   . split at hr
     . cases hr
       obtain⟨v',w',news,hrun,h4,h5,h6,h7⟩:=go (hob _ (by simp))
       rw[<- hVn,hvx]at hrun
       rw[Nat.zero_add,List.nil_append]at h4
       exact finLay hrun h4 h5 h6 h7 hst rfl
     . cases hr
       obtain rfl:m=0:=hob _ (by simp)
       obtain⟨A,c2,hUv,_⟩:=hs hps
       obtain⟨dd,ie,z,hue,hie,hse,hbe,hz,hzs,_,hzr⟩:=Tl.info
       have hrun:(Builtin.append_ #[t,t] o.type #[a.eval x,a.eval y]).run C.P w= .ok (.slice none 0 0) w:=by
        rw[<- hvx,hVn,hUv]
        cases A<;>simp[Builtin.append_,run_underlying hu,sizeOf,typeInfo,hie,Builtin.lenOf,Builtin.firstCells,loadCells,loadCellsFrom]
       simp only[zx,Option.some.injEq]at hst
       subst hst
       exact fin hrun (hn _ w F φ h fun _=> .stat .nils)
 . -- full
   rename_i sh n f hcond
   simp only[Bool.and_eq_true]at hcond
   have es:=Shape.same_eq _ _ hcond.1
   split at hr
   case h_2=>cases hr
   rename_i hsame
   have es2:=Shape.same_eq _ _ hsame
   subst es2
   obtain⟨o0,o1,o2⟩:0<m/\((n+m:Nat):Int)*tl.bytes<=140737488355328/\n+m<=9223372036854775807:=hob _ (by split at hr<;>(cases hr;simp))
   have hps:∀ p∈ps,p:=fun p hp=>hob p (by split at hr<;>(cases hr;simp[hp]))
   obtain⟨dd,ie,z,hue,hie,hse,hbe,hz,hzs,_,hzr⟩:=Tl.info
   have hpos:=Tl.pos
   obtain⟨A2,c2,news,hUv,hl2,hA2,hn2,h12⟩:=zb4 (hs hps) (by rw[es];exact hpos)
   obtain⟨ad,rfl,hc2⟩:=hA2 o0
   obtain⟨A1,c1,olds,hVv,hl1,hA1,hn1,h11⟩:=zb4 (zbu (.inr hV)) (by rw[es];exact hpos)
   have hcap:c1=n:=by
    rw[hVv]at hV
    cases hV with
    |stat hV=>cases hV<;>rfl
   subst hcap
   have hb2:(c1+m)*tl.bytes<=140737488355328:=by
    have :(((c1+m)*tl.bytes:Nat):Int)<=140737488355328:=by rw[Int.natCast_mul];exact o1
    omega
   have hge:=grownCap_ge w (c1+m) c1 el
   have hcm:grownCap w (c1+m) c1 el<=maxLen:=grownCap_le_maxLen w (c1+m) c1 el (by unfold maxLen;omega)
   have hsz1:ie.size=sh.size:=by rw[hse,es]
   have done:(Builtin.append_ #[t,t] o.type #[a.eval x,a.eval y]).run C.P w= .ok (.slice (some ⟨w.heap.size,0,none⟩) (c1+m) (grownCap w (c1+m) c1 el)) (w.drew.alloc (.cells (olds.toArray++news.toArray++Builtin.zeroCells z.cells (grownCap w (c1+m) c1 el - (c1+m))) el)):=by
    have ex2:a.eval x= .slice A1 c1 c1:=hvx.symm.trans hVv
    rw[hUv,ex2]
    cases A1 with
    |some b1=>
     refine run_append_grow (P:=C.P) w t o.type el ie z hu hie hz b1 c1 c1 olds (by rw[hl1,hsz1]) (fun j u hj=>?_) ad m c2 news (by rw[hl2,hsz1]) hc2 (by omega) (by omega) (growslice_fits (by omega) (by rw[hbe];exact hb2))
     rcases Nat.eq_zero_or_pos c1 with h0 |h0
     . subst h0
       have :olds=[]:=List.eq_nil_of_length_eq_zero (by simpa using hl1)
       subst this;simp at hj
     . obtain⟨ad1,e1,hc1⟩:=hA1 h0
       cases e1
       exact hc1 j u hj
    |none=>
     have h0:c1=0:=by
      rcases Nat.eq_zero_or_pos c1 with h0 |h0
      . exact h0
      . obtain⟨ad1,e1,_⟩:=hA1 h0;cases e1
     subst h0
     have h0:olds=[]:=List.eq_nil_of_length_eq_zero (by simpa using hl1)
     subst h0
     have hb3:m*ie.bytes<=281474976710656:=by rw[hbe];have h9:=hb2;rw[Nat.zero_add]at h9;exact Nat.le_trans h9 (by decide)
     have hm3:(m:Int)<=9223372036854775807:=by rw[Nat.zero_add]at o2;exact Int.ofNat_le.2 o2
     have :=run_append_nil (P:=C.P) w t o.type el ie z hu hie hz ad m c2 news (by rw[hl2,hsz1]) hc2 o0 hm3 hb3
     simpa using this
   have gr:w.grownBy (w.drew.alloc (.cells (olds.toArray++news.toArray++Builtin.zeroCells z.cells (grownCap w (c1+m) c1 el - (c1+m))) el)) none:=⟨rfl,rfl,rfl,by simp,fun k hk _=>Below.heap_alloc w.drew _ k hk⟩
   have els:=zaj hl1 hn1 hn2
   have own1:(w.drew.alloc (.cells (olds.toArray++news.toArray++Builtin.zeroCells z.cells (grownCap w (c1+m) c1 el - (c1+m))) el)).ownsRow 0 el sh.size (.slice (some ⟨w.heap.size,0,none⟩) (c1+m) (grownCap w (c1+m) c1 el)) (c1+m) (olds++news):=by
    refine⟨by rw[List.length_append,hl1,hl2,Nat.add_mul], .inr ⟨w.heap.size,_,_,rfl,Nat.zero_le _,heap_alloc_new w.drew _,hge,hcm, ?_, ?_⟩⟩
    . simp only[Array.size_append,List.size_toArray,size_zeroCells,hzs,hl1,hl2,<- es,<- Nat.add_mul]
      congr 1
      omega
    . simp only[Array.toList_append,List.append_assoc]
      have :(c1+m)*sh.size=(olds++news).length:=by rw[List.length_append,hl1,hl2,Nat.add_mul]
      rw[<- List.append_assoc,this]
      exact List.take_left
   split at hr
   . cases hr;exact finNew done own1 gr (.inr rfl) els hst rfl
   . cases hr;exact finLay done own1 gr (.inr rfl) els hst rfl
 . -- the call's own
   rename_i b n hcond
   simp only[Bool.and_eq_true]at hcond
   have es:=Shape.same_eq _ _ hcond.1
   split at hr
   case h_2=>cases hr
   rename_i ty sh n' f hb
   split at hr
   case h_2=>cases hr
   rename_i hcnd
   simp only[Bool.and_eq_true]at hcnd
   obtain⟨⟨k1,k2⟩,k4⟩:=hcnd
   have e1:=Nat.eq_of_beq_eq_true k1
   have es2:=Shape.same_eq _ _ k2
   subst e1 es2
   cases hr
   obtain⟨o0,o1,o2⟩:n=n'/\((n+m:Nat):Int)*tl.bytes<=140737488355328/\n+m<=9223372036854775807:=hob _ (by simp)
   subst o0
   obtain⟨xs,hown,hob1,hxs⟩:=zml (h.heap b _ hb) hV rfl
   obtain⟨v',w',news,hrun,h4,h5,h6,h7⟩:=zdr (ty:=o.type) hT htl hu es hown (hs fun p hp=>hob p (by simp[hp])) o2 o1 (Nat.zero_le _)
   rw[hvx]at hrun
   refine fin hrun ?_
   simp only[zx,Option.some.injEq]at hst
   subst hst
   have hFn:∀ k,v'.ownBlock=some k ->¬ F k:=by
    intro k hk hF
    rcases h6 with h6 |h6
    . rw[h6]at hk;exact((h.heap b _ hb).lt (hob1 k hk)).2.1 hF
    . rw[h6]at hk;cases hk;have :=h.ro _ hF;omega
   have hkeep:∀ k,F k ->w'.heap[k]? =w.heap[k]? :=fun k hk=>h5.block k (h.ro k hk) fun e=>((h.heap b _ hb).lt (hob1 k e.symm)).2.1 hk
   obtain⟨pl,p1,p2,p3,p4⟩:=z5h (F:=F) (B:=W0.B) (base:=0) (b:=b) (f:=fun i=>if i<n then f i else g (i - n)) h4 (fun k hk=>by
    rcases h6 with h6 |h6
    . rw[h6]at hk;exact((h.heap b _ hb).lt (hob1 k hk)).2.2
    . rw[h6]at hk;cases hk;exact h.bnew (Nat.le_refl _)) hFn (fun i hi j hj=>by
    obtain⟨uu,hu1,hu2⟩:=zaj hown.1 hxs h7 i hi j hj
    exact⟨uu,hu1,hu2.keep hkeep fun _ hk=>hk⟩)
   obtain⟨B1,B2⟩:=p4 (fun k=>if k=b then pl else φ k) (by simp)
   refine hn v' w' F _ (h.growBox hb h5 rfl (fun gg hg=>hob1 gg hg) pl (fun gg hg=>?_) B1) fun _=>B2
   rw[p1]at hg
   rcases h6 with h6 |h6
   . rw[h6]at hg;exact .inl (hob1 gg hg)
   . rw[h6]at hg;cases hg;exact .inr (Nat.le_refl _)
 . cases hr
end
section
variable {C:Cfg} {W0:Entry} {F0:Nat ->Prop} {st st':St} {a:Act} {w:World} {F:Nat ->Prop} {φ:Nat ->Place} {e:Operand ->Option AV} {dst:Option Nat} {orc:FuncId ->List AV ->Option AV} {CC:FuncId ->List AV ->AV ->Prop} {r:Res} {o:Oper}
 {next:Act ->World ->Prop} {Q:Exit ->Act ->World ->Prop}
theorem zk5 {c:Call} {x y:Operand} {t t':TypeId} {te:TyE} {b o0 n:Nat} {u:AV} {el:TypeId} {tl:TyE} {ty:TypeId} {sh:Shape} {n':Nat} {f f':Nat ->AV} {su:Shape} {m:Nat} {g:Nat ->AV}
 (h:Rel C W0 F0 st a w F φ) (hT:z1d C) (ho:o.op= .call c) (hc:c.callee= .builtin .copy) (hargs:c.args.toList=[x,y]) (htys:c.argTypes.toList=[t,t']) (h1:tyOf C t=some te) (hkind:te.kind= .slice el) (htl:tyOf C el=some tl)
 (hb:get st.heap b=some (.row ty sh n' f)) (hsrc:(match u with | .seq su m g | .seqc su m g=>some (su,m,g) | .nils=>some (tl.sh,0,fun _=>AV.any) |_=>none:Option (Shape×Nat×(Nat ->AV)))=some (su,m,g))
 (es:su=tl.sh) (es2:sh=tl.sh) (hU:Rep w F φ (a.eval y) u) (o2:(n:Int)<=9223372036854775807)
 (hV:(∃ gb p cap0,(φ b).blk=some gb/\o0+n<=(φ b).cap/\(p=o0*(φ b).sh.size∨n=0/\p=0)/\a.eval x= .slice (some ⟨gb,p,none⟩) n cap0)∨((φ b).blk=none/\n=0/\a.eval x= .slice none 0 0))
 (hf:∀ i,f' i=if o0<=i/\i<o0+min m n then g (i - o0)else f i)
 (hn:Next C W0 F0 {st with heap:=put st.heap b (.row ty sh n' f')} a o (.int .i64 ((min m n:Nat):Int)) next):o.wp C.P a w next Q:=by
 have ea:c.args=#[x,y]:=by rw[<- Array.toArray_toList (xs:=c.args),hargs]
 have et:c.argTypes=#[t,t']:=by rw[<- Array.toArray_toList (xs:=c.argTypes),htys]
 have T:=hT _ _ h1
 have Tl:=hT _ _ htl
 have hu:=z4a T hkind
 have hs:zi8 w F (a.eval y) su m g:=by
  cases u<;>simp only[Option.some.injEq,Prod.mk.injEq,reduceCtorEq]at hsrc
  . obtain⟨rfl,rfl,rfl⟩:=hsrc;exact zk4 hU
  . obtain⟨rfl,rfl,rfl⟩:=hsrc;exact zbu (.inl hU)
  . obtain⟨rfl,rfl,rfl⟩:=hsrc;exact zbu (.inr hU)
 have hpos:=Tl.pos
 obtain⟨A,cp,news,hUv,hl,hA,hnw,hone⟩:=zb4 hs (by rw[es];exact hpos)
 have hin:InR .i64 ((min m n:Nat):Int):=zes (by omega)
 have fin:∀ {w':World},(Builtin.copy_ #[t,t'] o.type #[a.eval x,a.eval y]).run C.P w= .ok (.int .i64 ((min m n:Nat):Int)) w' ->Rel C W0 F0 {st with heap:=put st.heap b (.row ty sh n' f')} a w' F φ ->o.wp C.P a w next Q:=by
  intro w' hrun hR
  unfold Oper.wp
  have :(execOp a.eval o).run C.P w= .ok (.value (.int .i64 ((min m n:Nat):Int))) w':=by
   refine z3u ho hc ?_
   rw[ea,et]
   simp only[builtin,Sem.run_bind]
   have :(#[x,y].map a.eval)=#[a.eval x,a.eval y]:=by simp
   rw[this,hrun]
   rfl
  rw[this]
  exact hn _ w' F φ hR fun _=> .stat (.int _ _ hin)
 have hsz2:(sizeOf el).run C.P w= .ok tl.sh.size w:=Tl.size
 obtain⟨hsh,hty,hrow⟩:=h.heap b _ hb
 -- the cells that are read
 have hfc:(Builtin.firstCells tl.sh.size (min m n) (a.eval y)).run C.P w= .ok ((news.take (min m n*tl.sh.size)).toArray) w:=by
  rw[hUv]
  cases A with
  |none=>
   have h0:m=0:=by
    rcases Nat.eq_zero_or_pos m with h0 |h0
    . exact h0
    . obtain⟨ad,e,_⟩:=hA h0;cases e
   subst h0
   have :news=[]:=List.eq_nil_of_length_eq_zero (by simpa using hl)
   subst this
   simp[Builtin.firstCells]
  |some ad=>
   have hlen:(news.take (min m n*tl.sh.size)).length=min m n*tl.sh.size:=by
    have :min m n*tl.sh.size<=m*tl.sh.size:=Nat.mul_le_mul_right _ (Nat.min_le_left _ _)
    rw[List.length_take,hl,es];omega
   simp only[Builtin.firstCells]
   have hrl:=run_loadCells_list (P:=C.P) w ad (news.take (min m n*tl.sh.size)) fun j v hj=>by
    rcases Nat.eq_zero_or_pos m with h0 |h0
    . subst h0
      have :news=[]:=List.eq_nil_of_length_eq_zero (by simpa using hl)
      subst this;simp at hj
    . obtain⟨ad',e,hcs⟩:=hA h0
      cases e
      rw[List.getElem?_take]at hj
      split at hj
      . exact hcs j v hj
      . cases hj
   rw[hlen]at hrl
   exact hrl
 have key:∀ {base:Option Addr} {cap:Nat},a.eval x= .slice base n cap ->(Builtin.copy_ #[t,t'] o.type #[a.eval x,a.eval y]).run C.P w=
  ((match base with |some ad=>storeCells ad (news.take (min m n*tl.sh.size)) |none=>pure ()).run C.P w).andThen fun _ w'=> .ok (.int .i64 ((min m n:Nat):Int)) w':=by
  intro base cap hv
  have hU2:=hUv
  rw[hv]
  simp only[Builtin.copy_,List.getElem?_toArray,List.getElem?_cons_zero,List.getElem?_cons_succ,Sem.run_bind,run_underlying hu,Result.andThen_ok]
  have hlo:(Builtin.lenOf (a.eval y)).run C.P w= .ok m w:=by rw[hUv];rfl
  rw[hlo]
  simp only[Result.andThen_ok]
  have :Nat.min m n=min m n:=rfl
  rw[this,hsz2]
  simp only[Result.andThen_ok]
  rw[hfc]
  simp only[Result.andThen_ok]
  cases base<;>simp[goInt]
 rcases hV with⟨gb,p0,cap0,hg,hnc,hp0,hv⟩ | ⟨hg,h0,hv⟩
 . rcases hrow with⟨h4,_⟩ | ⟨g',cs,hg',hbase,hnF,hh,hsz,hncap,hmax,hrep⟩
   . rw[hg]at h4;cases h4
   obtain rfl:g'=gb:=by rw[hg]at hg';injection hg' with e;exact e.symm
   have hlen:(news.take (min m n*tl.sh.size)).length=min m n*tl.sh.size:=by
    have :min m n*tl.sh.size<=m*tl.sh.size:=Nat.mul_le_mul_right _ (Nat.min_le_left _ _)
    rw[List.length_take,hl,es];omega
   have hle:p0+min m n*tl.sh.size<=cs.size/\(p0=o0*tl.sh.size∨min m n*tl.sh.size=0):=by
    rw[hsz,es2]
    rcases hp0 with e | ⟨e,e'⟩
    . rw[hsh,es2]at e
      have h9:(o0+min m n)*tl.sh.size<=(φ b).cap*tl.sh.size:=Nat.mul_le_mul_right _ (Nat.le_trans (Nat.add_le_add_left (Nat.min_le_right m n) o0) hnc)
      rw[Nat.add_mul]at h9
      exact⟨by omega, .inl e⟩
    . subst e e';simp
   have hsc:=run_storeCells_at (P:=C.P) g' p0 ty (news.take (min m n*tl.sh.size)) 0 cs w hh (by rw[hlen];omega) (fun v hv=>hone v (List.mem_of_mem_take hv))
   rw[Nat.add_zero,hlen]at hsc
   refine fin (w':=w.setRow g' (cs.toList.take p0++news.take (min m n*tl.sh.size)++cs.toList.drop (p0+min m n*tl.sh.size)).toArray) ?_ ?_
   . rw[key hv,hsc]
     rfl
   . have hna:((news.take (min m n*tl.sh.size)).toArray).size=min m n*tl.sh.size:=by simpa using hlen
     have hsp:(cs.toList.take p0++news.take (min m n*tl.sh.size)++cs.toList.drop (p0+min m n*tl.sh.size))=(cs.toList.take p0++(news.take (min m n*tl.sh.size)).toArray.toList++cs.toList.drop (p0+min m n*tl.sh.size)):=by simp
     rw[hsp]
     refine h.setBox hb hg rfl rfl rfl (by simp) (fun k hk=>z25 hk) rfl ⟨hsh,hty, .inr ⟨g',_,hg,hbase,hnF,setRow_heap w g' cs _ _ _ hh,by rw[z68 hna (by omega)];exact hsz,hncap,hmax,fun i hi j hj=>?_⟩⟩
     rw[z7m hna (by omega)]
     refine RepS.keep (w:=w) (F:=F) ?_ (fun k hk=>z25 fun e=>hnF (e ▸ hk)) (fun _ hk=>hk)
     by_cases hik:o0<=i/\i<o0+min m n
     . have hmul:(i - o0+1)*tl.sh.size<=min m n*tl.sh.size:=Nat.mul_le_mul_right _ (by omega)
       have hio:i*tl.sh.size=o0*tl.sh.size+(i - o0)*tl.sh.size:=by rw[<- Nat.add_mul];congr 1;omega
       rw[Nat.add_mul]at hmul
       rw[es2]at hj ⊢
       have hp1:p0=o0*tl.sh.size:=hle.2.resolve_right (by omega)
       rw[if_pos (by omega),hf i,if_pos hik,show i*tl.sh.size+j - p0=(i - o0)*tl.sh.size+j from by omega]
       obtain⟨uu,hu1,hu2⟩:=hnw (i - o0) (by omega) j (by rw[es];exact hj)
       rw[es]at hu1 hu2
       rw[Array.getD_eq_getD_getElem?,List.getElem?_toArray,List.getElem?_take_of_lt (by omega),hu1]
       exact hu2
     . have hout:¬ (p0<=i*sh.size+j/\i*sh.size+j<p0+min m n*tl.sh.size):=by
        rw[es2]at hj ⊢
        rcases hle.2 with e |e
        . rcases Nat.lt_or_ge i o0 with h8 |h8
          . have :=Nat.mul_le_mul_right tl.sh.size (show i+1<=o0 from h8)
            rw[Nat.add_mul]at this;omega
          . have :=Nat.mul_le_mul_right tl.sh.size (show o0+min m n<=i by omega)
            rw[Nat.add_mul]at this;omega
        . omega
       rw[if_neg hout,hf i,if_neg hik]
       exact hrep i hi j hj
 . subst h0
   refine fin (w':=w) ?_ ?_
   . rw[key hv];rfl
   . refine⟨h.env,fun b' c1 hc1=>?_, ?_,h.ro,h.base,h.sub,h.new,h.dfr,h.tsz,h.glob,fun b' p hp=>?_⟩
     . by_cases e:b'=b
       . subst e
         rw[zv]at hc1
         cases hc1
         refine⟨hsh,hty, ?_⟩
         rcases hrow with h4 | ⟨g',cs,hg',_⟩
         . exact .inl h4
         . rw[hg]at hg';cases hg'
       . rw[zb _ _ _ _ e]at hc1
         exact h.heap b' c1 hc1
     . intro b1 b2 c1 c2 g2 k1 k2 k3 k4
       have i1:∃ c1',get st.heap b1=some c1':=by
        by_cases e:b1=b
        . exact⟨_,e ▸ hb⟩
        . rw[zb _ _ _ _ e]at k1;exact⟨c1,k1⟩
       have i2:∃ c2',get st.heap b2=some c2':=by
        by_cases e:b2=b
        . exact⟨_,e ▸ hb⟩
        . rw[zb _ _ _ _ e]at k2;exact⟨c2,k2⟩
       obtain⟨c1',i1⟩:=i1
       obtain⟨c2',i2⟩:=i2
       exact h.inj b1 b2 c1' c2' g2 i1 i2 k3 k4
     . obtain⟨a1,a2,a3⟩:=h.anc b' p hp
       refine⟨a1,a2,fun c1 hc1=>?_⟩
       by_cases e:b'=b
       . subst e;exact absurd (a3 _ hb) (by simp[BoxC.isRow])
       . rw[zb _ _ _ _ e]at hc1;exact a3 c1 hc1
theorem zzo {c:Call} (h:Rel C W0 F0 st a w F φ) (hT:z1d C) (ho:o.op= .call c) (hc:c.callee= .builtin .copy) (hr:zl C st e o.dst orc CC (.call c)=some r)
 (hx:∀ x∈c.args.toList,∀ u,e x=some u ->Rep w F φ (a.eval x) u) (hob:∀ p∈r.obs,p) (hst:zx st o.dst r.eff=some st') (hn:Next C W0 F0 st' a o r.val next):o.wp C.P a w next Q:=by
 simp only[zl,hc]at hr
 split at hr
 case h_2=>cases hr
 rename_i x y t t' hargs htys
 split at hr
 case h_3=>cases hr
 all_goals
  rename_i h1 h1' h2 h3
  split at hr
  case h_2=>cases hr
  rename_i el el' hkind hkind'
  split at hr
  case h_2=>cases hr
  rename_i tl ty sh n' f htl heq hb
  split at hr
  case h_2=>cases hr
  rename_i su m g hsrc
  split at hr
  case h_2=>cases hr
  rename_i hcond
  simp only[Bool.and_eq_true]at hcond
  have es:=Shape.same_eq _ _ hcond.1
  have es2:=Shape.same_eq _ _ hcond.2
  cases hr
  have hV:=hx x (by rw[hargs];simp) _ h2
  have hU:=hx y (by rw[hargs];simp) _ h3
  simp only[zx,Option.some.injEq]at hst
  subst hst
  have hob':=hob _ (List.mem_singleton.2 rfl)
 . refine zk5 h hT ho hc hargs htys h1 hkind htl hb hsrc es es2 hU hob'.2 (o0:=0) ?_ (fun i=>?_) hn
   . rcases hV.own_inv with⟨gb,hg,hv,hnc⟩ | ⟨hg,h0,hv⟩
     . exact .inl ⟨gb,0,_,hg,by omega, .inl (Nat.zero_mul _).symm,hv⟩
     . exact .inr ⟨hg,h0,hv⟩
   . simp only[Nat.zero_le,true_and,Nat.zero_add,Nat.sub_zero]
 . refine zk5 h hT ho hc hargs htys h1 hkind htl hb hsrc es es2 hU hob'.2 ?_ (fun i=>rfl) hn
   rcases hV.ownx_inv with⟨gb,p,hg,hnc,_,hp,hv⟩ | ⟨hg,_,h0,hv⟩
   . exact .inl ⟨gb,p,_,hg,hnc,hp,hv⟩
   . exact .inr ⟨hg,h0,hv⟩
end
end Go.AV
namespace Go.AV
open Go.RowKit
theorem zzp (n:Nat ->Nat) (x:AV):(x.sub n).isOne=x.isOne:=by cases x<;>rfl
theorem zmm (n:Nat ->Nat) (x:AV):z1g (x.sub n)=(z1g x).sub n:=by
 unfold z1g
 rw[zzp]
 split<;>rfl
theorem znh {x:AV} (h:x.isOne=true):x.leafy=true:=by cases x<;>first |rfl | (simp[AV.isOne]at h)
mutual
theorem z3v:∀ (sh:Shape) (x:AV) (j:Nat),(z6 sh x j).leafy=true
 | .leaf,x,j=>by
  simp only[z6,z1g]
  split
  . rename_i h;exact znh h
  . rfl
 | .agg ss,x,j=>by
  cases x with
  |agg xs=>simp only[z6];exact z8x ss xs j
  |_=>rfl
 | .arr n s,x,j=>by cases x<;>rfl
theorem z8x:∀ (ss:List Shape) (xs:List AV) (j:Nat),(zh ss xs j).leafy=true
 |s::ss,x::xs,j=>by
  simp only[zh]
  split
  . exact z3v s x j
  . exact z8x ss xs _
 | [],_,_=>rfl
 |_::_,[],_=>rfl
end
mutual
theorem z50 (n:Nat ->Nat):∀ (sh:Shape) (x:AV) (j:Nat),z6 sh (x.sub n) j=(z6 sh x j).sub n
 | .leaf,x,j=>by simp only[z6];exact zmm n x
 | .agg ss,x,j=>by
  cases x with
  |agg xs=>simp only[z6,AV.sub];exact zbw n ss xs j
  |_=>rfl
 | .arr m s,x,j=>by cases x<;>rfl
theorem zbw (n:Nat ->Nat):∀ (ss:List Shape) (xs:List AV) (j:Nat),zh ss (AV.subL n xs) j=(zh ss xs j).sub n
 |s::ss,x::xs,j=>by
  simp only[zh,AV.subL]
  split
  . exact z50 n s x j
  . exact zbw n ss xs _
 | [],xs,j=>by cases xs<;>rfl
 |_::_,[],_=>rfl
end
mutual
theorem z3w (m:Nat ->Bool):∀ (sh:Shape) (x:AV) (j:Nat),x.only0 m=true ->(z6 sh x j).only0 m=true
 | .leaf,x,j,h=>by
  simp only[z6,z1g]
  split
  . exact h
  . rfl
 | .agg ss,x,j,h=>by
  cases x with
  |agg xs=>simp only[z6];exact z8y m ss xs j (by simpa [AV.only0]using h)
  |_=>rfl
 | .arr n s,x,j,h=>by cases x<;>rfl
theorem z8y (m:Nat ->Bool):∀ (ss:List Shape) (xs:List AV) (j:Nat),AV.only0L m xs=true ->(zh ss xs j).only0 m=true
 |s::ss,x::xs,j,h=>by
  simp only[zh]
  simp only[AV.only0L,Bool.and_eq_true]at h
  split
  . exact z3w m s x j h.1
  . exact z8y m ss xs _ h.2
 | [],_,_,_=>rfl
 |_::_,[],_,_=>rfl
end
section
variable {w:World} {F:Nat ->Prop} {φ φ2:Nat ->Place} {n:Nat ->Nat} {m:Nat ->Bool}
theorem zb5 (hφ:∀ b,m b=true ->φ2 (n b)=φ b) {v:Value} {y:AV} (hl:y.leafy=true) (h0:y.only0 m=true) (h:Rep w F φ v y):Rep w F φ2 v (y.sub n):=by
 cases h with
 |stat h=>cases h<;>first | (simp[AV.leafy]at hl;done) |exact .stat (by constructor<;>assumption) |skip
 |st h=>exact .st h
 |own b g k hb hn=>
  rw[<- hφ b h0]at hb hn ⊢
  exact .own (n b) g k hb hn
 |own0 b hb=>
  rw[<- hφ b h0]at hb
  exact .own0 (n b) hb
 |ptr b g p hb hp=>
  rw[<- hφ b h0]at hb hp ⊢
  exact .ptr (n b) g p hb hp
 |optr b g i p hb hp=>
  rw[<- hφ b h0]at hb hp ⊢
  exact .optr (n b) g i p hb hp
 |ownx b g o p k c hb hn hc hp=>
  rw[<- hφ b h0]at hb hn hc hp ⊢
  exact .ownx (n b) g o p k c hb hn hc hp
 |ownx0 b c hb=>
  rw[<- hφ b h0]at hb
  exact .ownx0 (n b) c hb
 |clo f caps l hs hc=>exact .stat (Rep.toS (.clo f caps l hs hc) h0)
 |mc=>simp[AV.leafy]at hl
 |tup=>simp[AV.leafy]at hl
 |whenT=>simp[AV.leafy]at hl
theorem zi9 (hφ:∀ b,m b=true ->φ2 (n b)=φ b) {v:Value} {y:AV} (hl:y.leafy=true∨∃ sh x,y= .mc sh x) (h0:y.only0 m=true) (h:Rep w F φ v y):Rep w F φ2 v (y.sub n):=by
 rcases hl with hl | ⟨sh,x,rfl⟩
 . exact zb5 hφ hl h0 h
 . simp only[AV.only0]at h0
   cases h with
   |stat h=>
    cases h with
    |mc cs _ _ hs hr=>exact .mc cs sh _ hs fun j hj=>by rw[z50];exact zb5 hφ (z3v sh x j) (z3w m sh x j h0) (.stat (hr j hj))
   |mc cs _ _ hs hr=>exact .mc cs sh _ hs fun j hj=>by rw[z50];exact zb5 hφ (z3v sh x j) (z3w m sh x j h0) (hr j hj)
theorem zet (hφ:∀ b,m b=true ->φ2 (n b)=φ b) {v:Value} {y:AV} (hl:y.leafy=true) (h0:y.only0 m=true) (h:Rep w F φ2 v (y.sub n)):Rep w F φ v y:=by
 cases y with
 |own b k=>
  simp only[AV.sub]at h
  cases h with
  |stat h=>cases h
  |own _ g _ hb hn=>rw[hφ b h0]at hb hn ⊢;exact .own b g k hb hn
  |own0 _ hb=>rw[hφ b h0]at hb;exact .own0 b hb
 |ptr b p=>
  simp only[AV.sub]at h
  cases h with
  |stat h=>cases h
  |ptr _ g _ hb hp=>rw[hφ b h0]at hb hp ⊢;exact .ptr b g p hb hp
 |optr b i p=>
  simp only[AV.sub]at h
  cases h with
  |stat h=>cases h
  |optr _ g _ _ hb hp=>rw[hφ b h0]at hb hp ⊢;exact .optr b g i p hb hp
 |ownx b o k c=>
  simp only[AV.sub]at h
  cases h with
  |stat h=>cases h
  |ownx _ g _ p _ _ hb hn hc hp=>rw[hφ b h0]at hb hn hc hp ⊢;exact .ownx b g o p k c hb hn hc hp
  |ownx0 _ _ hb=>rw[hφ b h0]at hb;exact .ownx0 b c hb
 |clo f l=>exact .stat (h.toS h0)
 |agg=>simp[AV.leafy]at hl
 |arr=>simp[AV.leafy]at hl
 |mc=>simp[AV.leafy]at hl
 |tup=>simp[AV.leafy]at hl
 | «when» =>simp[AV.leafy]at hl
 |_=>exact .stat (h.toS rfl)
theorem zni (hφ:∀ b,m b=true ->φ2 (n b)=φ b) {v:Value} {y:AV} (hl:y.leafy=true∨∃ sh x,y= .mc sh x) (h0:y.only0 m=true) (h:Rep w F φ2 v (y.sub n)):Rep w F φ v y:=by
 rcases hl with hl | ⟨sh,x,rfl⟩
 . exact zet hφ hl h0 h
 . simp only[AV.only0]at h0
   simp only[AV.sub]at h
   cases h with
   |stat h=>
    cases h with
    |mc cs _ _ hs hr=>
     refine .mc cs sh _ hs fun j hj=>?_
     have :=hr j hj
     rw[z50]at this
     exact zet hφ (z3v sh x j) (z3w m sh x j h0) (.stat this)
   |mc cs _ _ hs hr=>
    refine .mc cs sh _ hs fun j hj=>?_
    have :=hr j hj
    rw[z50]at this
    exact zet hφ (z3v sh x j) (z3w m sh x j h0) this
theorem z8z {y:AV} (h:zsg y=true):y.leafy=true∨∃ sh x,y= .mc sh x:=by
 cases y<;>first |exact .inl h |exact .inr ⟨_,_,rfl⟩
theorem z5i:∀ {l:List AV} {j:Nat},z9x l=true ->j<l.length ->zsg (l.getD j .any)=true
 |x::l,0,h,_=>by simp only[z9x,Bool.and_eq_true]at h;simpa using h.1
 |x::l,j+1,h,hj=>by simp only[z9x,Bool.and_eq_true]at h;simpa using z5i h.2 (by simpa using hj)
 | [],_,_,hj=>by simp at hj
theorem z69 {m:Nat ->Bool}:∀ {l:List AV} {j:Nat},AV.only0L m l=true ->j<l.length ->(l.getD j .any).only0 m=true
 |x::l,0,h,_=>by simp only[AV.only0L,Bool.and_eq_true]at h;simpa using h.1
 |x::l,j+1,h,hj=>by simp only[AV.only0L,Bool.and_eq_true]at h;simpa using z69 h.2 (by simpa using hj)
 | [],_,_,hj=>by simp at hj
theorem z90 (n:Nat ->Nat):∀ (l:List AV) (j:Nat),j<l.length ->(AV.subL n l).getD j .any=(l.getD j .any).sub n
 |x::l,0,_=>rfl
 |x::l,j+1,hj=>by simpa [AV.subL]using z90 n l j (by simpa using hj)
 | [],_,hj=>by simp at hj
theorem z7p (n:Nat ->Nat):∀ l:List AV,(AV.subL n l).length=l.length
 | []=>rfl
 |x::l=>by simp[AV.subL,z7p n l]
theorem zia (hφ:∀ b,m b=true ->φ2 (n b)=φ b) {v:Value} {y:AV} (hg:z5o m y=true) (h:Rep w F φ v y):Rep w F φ2 v (y.sub n):=by
 cases y with
 |tup l=>
  simp only[z5o,Bool.and_eq_true]at hg
  cases h with
  |stat h=>cases h
  |tup vs _ hs hc=>
   refine .tup vs _ (by rw[z7p];exact hs) fun j hj=>?_
   rw[z7p]at hj
   rw[z90 n l j hj]
   exact zi9 hφ (z8z (z5i hg.1 hj)) (z69 hg.2 hj) (hc j hj)
 |_=>
  simp only[z5o,Bool.and_eq_true]at hg
  exact zi9 hφ (z8z hg.1) hg.2 h
theorem zzq (hφ:∀ b,m b=true ->φ2 (n b)=φ b) {v:Value} {y:AV} (hg:z5o m y=true) (h:Rep w F φ2 v (y.sub n)):Rep w F φ v y:=by
 cases y with
 |tup l=>
  simp only[z5o,Bool.and_eq_true]at hg
  simp only[AV.sub]at h
  cases h with
  |stat h=>cases h
  |tup vs _ hs hc=>
   rw[z7p]at hs hc
   refine .tup vs _ hs fun j hj=>?_
   have :=hc j hj
   rw[z90 n l j hj]at this
   exact zni hφ (z8z (z5i hg.1 hj)) (z69 hg.2 hj) this
 |_=>
  simp only[z5o,Bool.and_eq_true]at hg
  exact zni hφ (z8z hg.1) hg.2 h
end
def zbx (P:Program) (G:List (Nat×AV)) (f:FuncId) (args:List AV) (r:AV) (cs:List BoxC):Prop:=
 ∀ (w:World) (F:Nat ->Prop) (vs:Array Value),(∀ k,F k ->k<w.heap.size) ->(∀ g x,get G g=some x ->RepS w F (.pointer (some ⟨g,0,none⟩)) x) ->vs.size=args.length ->
  (∀ j,j<args.length ->RepS w F (vs.getD j undef) (args.getD j .any)) ->
  Calls P f vs w fun en w'=>∃ v F' φ',en= .returned v/\Below w.heap.size w w'/\(∀ k,F k ->F' k)/\(∀ k,F' k ->F k∨w.heap.size<=k)/\(∀ k,F' k ->k<w'.heap.size)/\Rep w' F' φ' v r/\
   (∀ i c,cs[i]? =some c ->z24 w' F' φ' (fun k=>w.heap.size<=k) i c)/\∀ i i' g,i<cs.length ->i'<cs.length ->(φ' i).blk=some g ->(φ' i').blk=some g ->i=i'
section
variable {w:World} {F:Nat ->Prop} {φ φ2:Nat ->Place} {n:Nat ->Nat} {m:Nat ->Bool} {B:Nat ->Prop}
end
end Go.AV
