import Derived.Test.YtgcpdfihjmmggaaGreatDoorXzk
import Derived.Test.YtgcpdfihjmmggaaGreatDoorXzm
import Derived.Test.YtgcpdfihjmmggaaGreatDoorXzl
namespace Go.Proofs.YtgcpdfihjmmggaaGreatDoor.fin
open Go Go.AV Go.Proofs.S25 Go.Proofs.YtgcpdfihjmmggaaGreatDoor.law Go.ChangeShapes Go.WideShapes Go.ChangeAt Go.RowKit
def tp:cN:=⟨z7, .agg [.ax, .ax, .ax, .ax, .ax],120, .struct [22,23,23,24,25],false⟩
def ti:cN:=⟨.leaf,d9 0,8, .int .i64,false⟩
def tl:cN:=⟨.leaf, .ax,24, .slice 3,false⟩
theorem zsf (j:cN) {y:AV} (s:j.kind= .slice 3) (h:HT j y):∃ l:List Int,Rd y (a8 l)/\l.length*8<=reachBytes/\∀ i,i<l.length ->jY (l.getD i 0):=by
 have r:aU Pl 3=some ⟨.leaf,d9 0,8, .int .i64,false⟩:=ac
 have⟨l,F,E,e⟩:=TM (λn=>d9 n) 0 jY s r h λx u=>by
  obtain⟨m,rfl,e,x⟩:=zu4 (k:= .i64) rfl u
  exact⟨m,dG.refl _ _,aby ▸ e,acb ▸ x⟩
 obtain⟨n,f,rfl,_⟩:=zeg s r h
 exact⟨l,F 0 am,E,e⟩
theorem con (e:List AV) (hl:e.length=[tp,ti,tl].length) (h:∀ (j:Nat) (m:cN),[tp,ti,tl][j]? =some m ->js (ap3 61) true m (e.getD j .any)):rm Tryz.prog GE 7 (List.zipWith rr [tp,ti,tl] e) (.bool true):=by
 match e,hl with
 | [a,b,c],_=>
  have⟨p,u,J,H⟩:=zu7 tp rfl (ass (h 0 tp rfl))
  have⟨n,r⟩:=oj (k:= .i64) rfl (ass (h 1 ti rfl))
  have⟨l,s,M,E⟩:=zsf tl rfl (ass (h 2 tl rfl))
  simp only[List.getD_cons_zero,List.getD_cons_succ]at u r s
  subst r
  have K:=Ln
  exact((avc p n l _ J H ah4 ae2 O (λi=>by
   by_cases y:i<l.length
   . exact E i y
   . rw[x7,y9 O];exact⟨am,am⟩) rfl).pre (args':=[.mc z7 a,d9 n,c]) rfl λw F v j x f=>by
   match j,x with
   |0,_=>exact dG.mc u w F v f
   |1,_=>exact f
   |2,_=>exact s w F v f).calls (fn:=Tryz.f7) Tryz.func7 (ac)
theorem aga (os:Os) (f:os.Started) (H:Type) (enc:TypeId×Value ->H):
 ReturnsInHanded {} Tryz.checked os 7 .any (λw e=>(Rows.tsoFinalSpec.pre enc Tryz.prog Tryz.f7 [] false w e/\laidMetH Tryz.prog aq3 w)/\sizedMet enc Tryz.prog Tryz.f7 (OpenSpec.ofChange Rows.tsoFinalSpec) false w e)
  (Rows.tsoFinalSpec.post enc Tryz.prog Tryz.f7 false true false false):=by
 refine z9o (C:=Tryz.checked) (P:=Tryz.prog) ac (X:=λw _=>laidMetH Tryz.prog aq3 w) (λ_ _ _ hh h=>h.of_heap hh) fj f ac Tryz.func7
  (ChangeSpec.witness_shaped (enc:=enc) (C:=Tryz.checked) (os:=os) (X:=λw _=>laidMetH Tryz.prog aq3 w) false (World.doorLaid Tryz.prog 400 os) #[.agg #[.slice none 0 0, .slice none 0 0, .slice none 0 0, .slice none 0 0, .slice none 0 0], .int .i64 0, .slice none 0 0] 8 rfl (World.shaped_of_RefB ac ac) ac ac ac (zu8 os _)) ?_
 intro W base e ds gs i hval j hsz k
 exact adj (tes:=[tp,ti,tl]) rfl ac bi ac
  (λds h=>by match ds,h with | [_,_,_],_=>rfl) con W (aey k) base e ds gs i (by with_reducible exact hval) (by with_reducible exact j) (by with_reducible exact hsz)
end Go.Proofs.YtgcpdfihjmmggaaGreatDoor.fin
