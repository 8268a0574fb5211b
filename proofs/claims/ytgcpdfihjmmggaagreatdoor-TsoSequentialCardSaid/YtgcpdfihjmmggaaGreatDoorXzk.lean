import Derived.Test.YtgcpdfihjmmggaaGreatDoorXzc
import Derived.Test.YtgcpdfihjmmggaaGreatDoorXzh
import Derived.Test.YtgcpdfihjmmggaaGreatDoorXzj
import Derived.Test.YtgcpdfihjmmggaaGreatDoorXzi
namespace Go.Proofs.YtgcpdfihjmmggaaGreatDoor.seq
open Go Go.AV Go.Proofs.S25 Go.Proofs.YtgcpdfihjmmggaaGreatDoor.law Go.ChangeShapes Go.WideShapes Go.ChangeAt Go.RowKit
def tp:cN:=⟨z7, .agg [.ax, .ax, .ax, .ax, .ax],120, .struct [22,23,23,24,25],false⟩
def ti:cN:=⟨.leaf, .int .i64 0,8, .int .i64,false⟩
def tl:cN:=⟨.leaf, .ax,24, .slice 3,false⟩
theorem zsf (te:cN) {y:AV} (hk:te.kind= .slice 3) (h:HT te y):∃ l:List Int,Rd y (a8 l)/\l.length*8<=reachBytes/\∀ i,i<l.length ->jY (l.getD i 0):=by
 have ht:aU Pl 3=some ⟨.leaf, .int .i64 0,8, .int .i64,false⟩:=by kernel_rfl
 obtain⟨l,h1,h2,h3⟩:=TM (λn=>AV.int .i64 n) 0 jY hk ht h λx hx=>by
  obtain⟨m,rfl,h3,h4⟩:=zu4 (k:= .i64) rfl hx
  exact⟨m,dG.refl _ _,aby ▸ h3,acb ▸ h4⟩
 obtain⟨n,f,rfl,_⟩:=zeg hk ht h
 exact⟨l,h1 0 (by decide),h2,h3⟩
theorem con (ys:List AV) (hl:ys.length=[tp,ti,tl].length) (h:∀ (j:Nat) (te:cN),[tp,ti,tl][j]? =some te ->bt (eM 61) true te (ys.getD j .any)):rm Tryz.prog GG 6 (List.zipWith rr [tp,ti,tl] ys) (.bool true):=by
 match ys,hl with
 | [a,b,c],_=>
  obtain⟨p,a1,a2,a3⟩:=zu7 tp rfl (h 0 tp rfl)
  obtain⟨n,hn⟩:=oj (k:= .i64) rfl (h 1 ti rfl)
  obtain⟨l,c1,c2,c3⟩:=zsf tl rfl (h 2 tl rfl)
  simp only[wx,wb]at a1 hn c1
  subst hn
  have hr:=Ln
  exact((anq p n l a2 a3 ah4 ae2 (λhp w=>aoe hp w) (by omega) λi=>by
   by_cases hi:i<l.length
   . exact c3 i hi
   . rw[x7,y9 (by omega)];exact⟨by decide,by decide⟩).pre (args':=[.mc z7 a, .int .i64 n,c]) rfl λw F v j hj hv=>by
   match j,hj with
   |0,_=>exact dG.mc a1 w F v hv
   |1,_=>exact hv
   |2,_=>exact c1 w F v hv).calls (fn:=Tryz.f6) Tryz.func6 (by kernel_rfl)
theorem aga (os:Os) (started:os.Started) (H:Type) (enc:TypeId×Value ->H):
 ReturnsInHanded {} Tryz.checked os 6 .any (λw args=>(Rows.tsoSequentialSpec.pre enc Tryz.prog Tryz.f6 [] false w args/\laidMetH Tryz.prog zr1 w)/\sizedMet enc Tryz.prog Tryz.f6 (OpenSpec.ofChange Rows.tsoSequentialSpec) false w args)
  (Rows.tsoSequentialSpec.post enc Tryz.prog Tryz.f6 false true false false):=by
 refine z9o (C:=Tryz.checked) (P:=Tryz.prog) (by kernel_rfl) (X:=λw _=>laidMetH Tryz.prog zr1 w) (λ_ _ _ hh h=>h.of_heap hh) fj started (by kernel_rfl) Tryz.func6
  (ChangeSpec.witness_shaped (enc:=enc) (C:=Tryz.checked) (os:=os) (X:=λw _=>laidMetH Tryz.prog zr1 w) false (World.doorLaid Tryz.prog 400 os) #[.agg #[.slice none 0 0, .slice none 0 0, .slice none 0 0, .slice none 0 0, .slice none 0 0], .int .i64 0, .slice none 0 0] 8 rfl (World.shaped_of_RefB (by kernel_rfl) (by kernel_rfl)) (by kernel_rfl) (by kernel_rfl) (by kernel_rfl) (zu8 os _)) ?_
 intro W base args ds gs before hval hW hsz hL
 exact adj (tes:=[tp,ti,tl]) rfl (by kernel_rfl) (by decide+kernel) (by kernel_rfl)
  (λds h=>by match ds,h with | [_,_,_],_=>rfl) con W (aey hL) base args ds gs before (by with_reducible exact hval) (by with_reducible exact hW) (by with_reducible exact hsz)
end Go.Proofs.YtgcpdfihjmmggaaGreatDoor.seq
