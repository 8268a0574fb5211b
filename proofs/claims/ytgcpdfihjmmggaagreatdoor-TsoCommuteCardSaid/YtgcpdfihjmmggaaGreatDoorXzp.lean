import Derived.Test.YtgcpdfihjmmggaaGreatDoorXzk
import Derived.Test.YtgcpdfihjmmggaaGreatDoorXzm
import Derived.Test.YtgcpdfihjmmggaaGreatDoorXzo
namespace Go.Proofs.YtgcpdfihjmmggaaGreatDoor.com
open Go Go.AV Go.Proofs.S25 Go.Proofs.YtgcpdfihjmmggaaGreatDoor.law Go.ChangeShapes Go.WideShapes Go.ChangeAt Go.RowKit
def tp:cN:=⟨z7, .agg [.ax, .ax, .ax, .ax, .ax],120, .struct [22,23,23,24,25],false⟩
def ti:cN:=⟨.ey,d9 0,8, .int .i64,false⟩
def tl:cN:=⟨.ey, .ax,24, .slice 3,false⟩
theorem zsf (j:cN) {y:AV} (s:j.kind= .slice 3) (h:HT j y):∃ l:List Int,Rd y (a8 l)/\l.length*8<=reachBytes/\∀ i,i<l.length ->jY (l.getD i 0):=by
 have r:aU Pl 3=some ⟨.ey,d9 0,8, .int .i64,false⟩:=ac;have⟨l,F,E,e⟩:=TM (λn=>d9 n) 0 jY s r h λx u=>by
  obtain⟨m,rfl,e,x⟩:=zu4 (k:= .i64) rfl u;exact⟨m,dG.refl _ _,aby ▸ e,acb ▸ x⟩
 obtain⟨n,f,rfl,_⟩:=zeg s r h;exact⟨l,F 0 am,E,e⟩
theorem con (e:List AV) (hl:e.length=[tp,ti,tl].length) (h:∀ (j:Nat) (m:cN),[tp,ti,tl][j]? =some m ->js (At 61) true m (e.getD j .any)):rm Tryz.prog GE 8 (List.zipWith rr [tp,ti,tl] e) (.bool true):=by
 match e,hl with
 | [a,b,c],_=>
  have⟨p,y,N,K⟩:=zu7 tp rfl (ass (h 0 tp rfl));have⟨n,u⟩:=oj (k:= .i64) rfl (ass (h 1 ti rfl));have⟨l,x,R,J⟩:=zsf tl rfl (ass (h 2 tl rfl));simp only[List.getD_cons_zero,List.getD_cons_succ]at y u x;subst u;have Q:=Ln;exact((aDd p n l _ N K ah4 ae2 O (λi=>by
   by_cases H:i<l.length;exact J i H;rw[x7,y9 O];exact⟨am,am⟩) rfl).pre (args':=[.mc z7 a,d9 n,c]) rfl λw F v j E f=>by
   match j,E with
   |0,_=>exact dG.mc y w F v f
   |1,_=>exact f
   |2,_=>exact x w F v f).calls (fn:=Tryz.f8) Tryz.func8 (ac)
theorem aga (os:Os) (f:os.Started) (H:Type) (enc:TypeId×Value ->H):
 ReturnsInHanded {} Tryz.checked os 8 .any (λw e=>(Rows.tsoCommuteSpec.pre enc Tryz.prog Tryz.f8 [] false w e/\laidMetH Tryz.prog aq3 w)/\sizedMet enc Tryz.prog Tryz.f8 (OpenSpec.ofChange Rows.tsoCommuteSpec) false w e)
  (Rows.tsoCommuteSpec.post enc Tryz.prog Tryz.f8 false true false false):=by
 refine z9o (C:=Tryz.checked) (P:=Tryz.prog) ac (X:=λw _=>laidMetH Tryz.prog aq3 w) (λ_ _ _ hh h=>h.of_heap hh) fj f ac Tryz.func8
  (ChangeSpec.witness_shaped (enc:=enc) (C:=Tryz.checked) (os:=os) (X:=λw _=>laidMetH Tryz.prog aq3 w) false (World.doorLaid Tryz.prog 400 os) #[.agg #[.slice none 0 0, .slice none 0 0, .slice none 0 0, .slice none 0 0, .slice none 0 0], .int .i64 0, .slice none 0 0] 8 rfl (World.shaped_of_RefB ac ac) ac ac ac (zu8 os _)) ?_
 intro W base e ds gs i hval j hsz k;exact adj (tes:=[tp,ti,tl]) rfl ac bi ac
  (λds h=>by match ds,h with | [_,_,_],_=>rfl) con W (aey k) base e ds gs i (by with_reducible exact hval) (by with_reducible exact j) (by with_reducible exact hsz)
end Go.Proofs.YtgcpdfihjmmggaaGreatDoor.com
