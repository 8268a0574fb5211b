import Derived.Test.YtcfagpelpjdmaaaGreatDoorXzf
import Derived.Test.YtcfagpelpjdmaaaGreatDoorXzk
import Derived.Test.YtcfagpelpjdmaaaGreatDoorXzm
namespace Go.Proofs.YtcfagpelpjdmaaaGreatDoor.run
open Go Go.AV Go.Proofs.S25 Go.Proofs.YtcfagpelpjdmaaaGreatDoor.law Go.ChangeShapes Go.WideShapes Go.ChangeAt Go.RowKit
def tp:cT:=⟨z7, .agg [.aA, .aA, .aA, .aA, .aA],120, .struct [22,23,23,24,25],false⟩
def tl:cT:=⟨.leaf, .aA,24, .slice 3,false⟩
theorem zsf (te:cT) {y:AV} (j:te.kind= .slice 3) (h:HT te y):∃ l:List Int,ew .leaf y (ab l)/\l.length*8<=reachBytes/\∀ i,i<l.length ->jS (l.getD i 0):=by
 have f:aY B3 3=some ⟨.leaf,co 0,8, .int .i64,false⟩:=am
 exact YO (λn=>co n) 0 jS j f h λx e=>by
  obtain⟨m,rfl,r,o⟩:=zu4 (k:= .i64) rfl e
  exact⟨m,ew.refl _ _,ajg ▸ r,aof ▸ o⟩
theorem aeo (te:cT) {y:AV} (r:te.kind= .struct [28,3]) (h:HT te y):∃ c:bq,y=tJ c:=by
 obtain⟨j,rfl,hl,e⟩:=X9 r h
 match j,hl with
 | [a,b],_=>
  have⟨o,i⟩:=ra (k:= .i64) rfl (e 0 28 ⟨.leaf,co 0,8, .int .i64,false⟩ rfl am)
  have⟨m,f⟩:=ra (k:= .i64) rfl (e 1 3 ⟨.leaf,co 0,8, .int .i64,false⟩ rfl am)
  simp only[List.getD_cons_zero,List.getD_cons_succ]at i f
  subst i f
  exact⟨⟨o,m⟩,rfl⟩
def tc:cT:=⟨ct, .agg [co 0,co 0],16, .struct [28,3],true⟩
theorem con (e:List AV) (hl:e.length=[tp,tc,tl].length) (h:∀ (j:Nat) (te:cT),[tp,tc,tl][j]? =some te ->bF (fj 61) true te (e.getD j .any)):vg Tryz.prog GG 3 (List.zipWith vp [tp,tc,tl] e) (.bool true):=by
 match e,hl with
 | [a,b,d],_=>
  have⟨p,u,H,E⟩:=zu7 tp rfl (h 0 tp rfl)
  have⟨c,s⟩:=aeo tc rfl (h 1 tc rfl)
  have⟨l,o,K,z⟩:=zsf tl rfl (h 2 tl rfl)
  have⟨m,f,r,_⟩:=zeg (te:=tl) rfl (show aY B3 3=some ⟨.leaf,co 0,8, .int .i64,false⟩ by kernel_rfl) (h 2 tl rfl)
  simp only[List.getD_cons_zero,List.getD_cons_succ]at u s o r
  subst s r
  have J:=W8
  exact((agx p c l H E aos aog ac λi=>by
   by_cases y:i<l.length
   . exact z i y
   . rw[x7,yi ac];exact⟨ap,ap⟩).pre (args':=[.mc z7 a, .mc ct (tJ c), .seq .leaf m f]) rfl λw F v j x k=>by
   match j,x with
   |0,_=>exact ew.mc u w F v k
   |1,_=>exact k
   |2,_=>exact o 0 ap w F v k).calls (fn:=Tryz.f3) Tryz.func3 (by kernel_rfl)
theorem anu (os:Os) (f:os.Started) (H:Type) (enc:TypeId×Value ->H):
 ReturnsInHanded {} Tryz.checked os 3 .any (λw e=>(Rows.execRunSpec.pre enc Tryz.prog Tryz.f3 [] false w e/\laidMetH Tryz.prog zr1 w)/\sizedMet enc Tryz.prog Tryz.f3 (OpenSpec.ofChange Rows.execRunSpec) false w e)
  (Rows.execRunSpec.post enc Tryz.prog Tryz.f3 false true false false):=by
 refine z9o (C:=Tryz.checked) (P:=Tryz.prog) am (X:=λw _=>laidMetH Tryz.prog zr1 w) (λ_ _ _ hh h=>h.of_heap hh) gX f am Tryz.func3
  (ChangeSpec.witness_shaped (enc:=enc) (C:=Tryz.checked) (os:=os) (X:=λw _=>laidMetH Tryz.prog zr1 w) false (World.doorLaid Tryz.prog 400 os) #[.agg #[.slice none 0 0, .slice none 0 0, .slice none 0 0, .slice none 0 0, .slice none 0 0], .agg #[.int .i64 0, .int .i64 0], .slice none 0 0] 8 rfl (World.shaped_of_RefB am am) am am am (zu8 os _)) ?_
 intro W base e ds gs i hval j hsz k
 exact ahi (tes:=[tp,tc,tl]) rfl am bv am
  (λds h=>by match ds,h with | [_,_,_],_=>rfl) con W (al2 k) base e ds gs i (by with_reducible exact hval) (by with_reducible exact j) (by with_reducible exact hsz)
end Go.Proofs.YtcfagpelpjdmaaaGreatDoor.run
