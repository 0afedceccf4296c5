/- Plain laws of the swarm (7): two are put, one is deleted. No program is walked here. · The clean machine: strings of bytes; what is small. · The clean machine's walk of TopApart: one object is got as if there were no other. -/
import Derived.Test.YtkimkgbppegkhaaGreatVf
import Derived.Test.YtkimkgbppegkhaaGreatEd
set_option linter.unusedVariables false
set_option linter.unusedSimpArgs false
namespace Go.Proofs.YtkimkgbppegkhaaGreat.Cm
open Go Go.RowKit Go.Proofs.YtkimkgbppegkhaaGreat.Gf
set_option maxRecDepth 100000
theorem co.mu{Q:Nat}(ps:List aq)(fl:List Lt)(_:co Q ps fl)(h:fl.length≤20):dN fl<1000:=by
 have:=yC fl
 omega
theorem co.lasts{Q i:Nat}{ps:List aq}{s:aq}(h:co Q ps [])(hs:ps[i]?=some s):s.n=i∧s.last=0:=by
 obtain⟨kn,rfl,_⟩:=h.pe i s hs
 exact⟨rfl,rfl⟩
/-- what one must be that puts -/
structure tc(s:aq):Prop where
 n:s.n≤1000
 kl:s.kn.length≤3
 la:s.last≤1000
 gu:bK s.st.gone s.n (s.last+1)=none
 dis:∀x∈s.st.sy,bu x≠(s.n,s.last+1)
 sy:s.st.sy.length≤300
 lg:s.st.lg≤400000000
 kb:∀k∈s.kn,k≤1000
theorem dA.sub{Q Z i:Nat}{RS:List Rg}{ps:List aq}{fl:List Lt}{s:aq}(h:dA Q RS Z ps fl)(hs:ps[i]?=some s):∃R,RS.Perm (s.st.sy++R):=by
 obtain⟨R,r1,_⟩:=kP hs
 exact⟨R++rsAll fl,h.all.symm.trans ((r1.append_right _).trans (List.append_assoc _ _ _▸List.Perm.refl _))⟩
theorem dA.putOk{Q Z i:Nat}{RS:List Rg}{ps:List aq}{fl:List Lt}{s:aq}(h:dA Q RS Z ps fl)(hl:RS.length≤300)(hZ:Z≤400000000)(hs:ps[i]?=some s)(hid:∀r∈RS,bu r≠(s.n,s.last+1)):tc s:=by
 obtain⟨q1,q2,q3⟩:=h.pe i s hs
 obtain⟨R,hR⟩:=h.sub hs
 have hq:=h.q4
 have h1:=q1.kn.nlt
 have h2:=q1.n
 have h3:=q1.last
 have h4:=hR.length_eq
 rw[List.length_append]at h4
 exact⟨om,q1.kn.len,om,by rw[q2];rfl,fun x hx=>hid x (hR.symm.subset (List.mem_append_left _ hx)),om,om,fun k hk=>by have:=q1.kn.lt k hk;omega⟩
theorem co.kl{Q:Nat}{ps:List aq}(h:co Q ps []):∀s∈ps,s.kn.length≤12:=fun s hs=>by
 obtain⟨i,hi,rfl⟩:=List.getElem_of_mem hs
 obtain⟨kn,e,hk⟩:=h.pe i _ (List.getElem?_eq_getElem hi)
 rw[e]
 have:=hk.len
 show kn.length≤12
 omega
theorem i'{ip ik u B N M:Nat}{bl:List (Nat×List (List Nat))}{r:Rg}(h:r∈RRo ip ik u B N M bl):bu r=(ip,ik)∧eX r=u:=by
 obtain⟨q,_,rfl⟩:=List.mem_map.1 h
 exact⟨rfl,rfl⟩
theorem co.putOk{Q i:Nat}{ps:List aq}{s:aq}(h:co Q ps [])(hall:∀(j:Nat) s,ps[j]?=some s→s.kn.length=Q-1)(hs:ps[i]?=some s):tc s:=
 (h.quiet hall).putOk (Nat.zero_le _) (Nat.zero_le _) hs fun _ h=>(by cases h)
theorem co.put1{Q a N M:Nat}{ps:List aq}{s s2:aq}{ls:List Lt}{data:List Nat}(h:co Q ps [])(hall:∀(j:Nat) s,ps[j]?=some s→s.kn.length=Q-1)(hs:ps[a]?=some s)(hS:b7 data.length N M)(hb:B8 data)(hsv:ji 0 data.length N M data s ls s2):
 ∃bl,ez data.length N M data bl∧dp (RRo a 1 9000 data.length N M bl)∧(RRo a 1 9000 data.length N M bl).length≤200∧dA Q (RRo a 1 9000 data.length N M bl) 5000000 (ps.set a s2) ls∧ls.length≤4∧s2.n=a∧s2.last=1:=by
 have hq:=h.quiet hall
 obtain⟨l1,l2⟩:=h.lasts hs
 obtain⟨q1,q2,q3⟩:=hq.pe a s hs
 have hp:=h.putOk hall hs
 have hls:=(hsv.ls hS hb om hp.n hp.la hp.kb).2
 have hkl:=hp.kl
 obtain⟨bl,g1,g2,g3,g4,g5,g6⟩:=hq.put hs hS hb om hsv ⟨fun _ h=>(by cases h),List.nodup_nil,Nat.zero_le _⟩ (Nat.zero_le _) (fun _ h=>(by cases h)) (Nat.zero_le _) om
 rw[l1,l2]at g3 g4 g5
 obtain⟨_,_,_,_,_,_,_,_,_,_,_,_,rfl⟩:=hsv
 exact⟨bl,⟨hS,hb,rfl,g1,g2⟩,g3,g4,by simpa using g5,om,l1,by show s.last+1=1;omega⟩
/-- of two objects -/
structure dF(a k u B1 B2 N M b k2:Nat)(bl bl2:List (Nat×List (List Nat)))(d1 d2:List Nat):Prop where
 f1:ez B1 N M d1 bl
 f2:ez B2 N M d2 bl2
 ne:(a,k)≠(b,k2)
 l1:(RRo a k u B1 N M bl).length≤200
 l2:(RRo b k2 u B2 N M bl2).length≤200
 rs:dp (RRo a k u B1 N M bl++RRo b k2 u B2 N M bl2)
 a:a≤1000
 b:b≤1000
 k:k≤1000
 k0:1≤k2
 k2:k2≤1000
 u:u=9000
theorem co.put2{Q a b N M:Nat}{ps:List aq}{s s1 s2:aq}{ls:List Lt}{data other:List Nat}{bl:List (Nat×List (List Nat))}(h:co Q ps [])(hs:ps[a]?=some s)(hf:ez data.length N M data bl)(hn:s1.n=a)(hl:s1.last=1)(hI:dA Q (RRo a 1 9000 data.length N M bl) 5000000 (ps.set a s1) ls)(hR:dp (RRo a 1 9000 data.length N M bl))(hRl:(RRo a 1 9000 data.length N M bl).length≤200)(hll:ls.length≤4)
 (hs2:(ps.set a s1)[b]?=some s2):∃k2,s2.n=b∧s2.last+1=k2∧tc s2∧(a≠b∨k2≠1)∧∀ls2 s3,b7 other.length N M→B8 other→ji 0 other.length N M other s2 ls2 s3→∃bl2,dF a 1 9000 data.length other.length N M b k2 bl bl2 data other∧dA Q (RRo a 1 9000 data.length N M bl++RRo b k2 9000 other.length N M bl2) 10000000 ((ps.set a s1).set b s3) (ls++ls2):=by
 have haQ:a<ps.length:=(List.getElem?_eq_some_iff.1 hs).1
 have hbQ:b<(ps.set a s1).length:=(List.getElem?_eq_some_iff.1 hs2).1
 rw[List.length_set,h.len]at hbQ
 rw[h.len]at haQ
 have hQ:=h.q4
 have hk:s2.n=b∧s2.last=if b=a then 1 else 0:=by
  rcases jS hs2 (by rw[h.len];exact haQ)with⟨rfl,rfl⟩|⟨hne,hb⟩
  ·exact⟨hn,by rw[if_pos rfl];exact hl⟩
  ·obtain⟨l1,l2⟩:=h.lasts hb
   exact⟨l1,by rw[if_neg hne];exact l2⟩
 obtain⟨k1,k2⟩:=hk
 have hne:a≠b∨s2.last+1≠1:=by
  by_cases e:a=b
  ·rw[if_pos e.symm]at k2
   exact .inr om
  ·exact .inl e
 have hla:s2.last≤1:=by rw[k2]; split<;>omega
 have hid:∀r∈RRo a 1 9000 data.length N M bl,bu r≠(s2.n,s2.last+1):=fun r hr e=>by
  rw[(i' hr).1,k1]at e
  injection e with e1 e2
  rcases hne with h | h
  ·exact h e1
  ·exact h e2.symm
 have hp:=hI.putOk (Nat.le_trans hRl om) om hs2 hid
 refine⟨_,k1,rfl,hp,hne,fun ls2 s3 hS hb hsv=>?_⟩
 have hkl:=hp.kl
 obtain⟨bl2,g1,g2,g3,g4,g5,g6⟩:=hI.put hs2 hS hb om hsv hR hRl hid om om
 rw[k1]at g3 g4 g5
 refine⟨bl2,⟨hf,⟨hS,hb,rfl,g1,g2⟩,fun e=>?_,hRl,g4,g3,om,om,om,om,om,rfl⟩,g5⟩
 injection e with e1 e2
 rcases hne with h | h
 ·exact h e1
 ·exact h e2.symm
theorem dp.subl{RS RS2:List Rg}(h:dp RS)(hs:RS2.Sublist RS):dp RS2:=⟨fun r hr=>h.sy r (hs.subset hr),(hs.map bA).nodup h.key,Nat.le_trans hs.length_le h.len⟩
theorem mA{ip ik:Nat}{r:Rg}:aW ip ik r=true↔bu r=(ip,ik):=by
 unfold aW
 rw[decide_eq_true_eq]
 constructor
 ·rintro ⟨h1,h2⟩;rw[←h1,←h2]
 ·intro h;rw[h];exact⟨rfl,rfl⟩
section
variable {a k u B1 B2 N M b k2:Nat} {bl bl2:List (Nat×List (List Nat))} {d1 d2:List Nat}
theorem dF.has1(h:dF a k u B1 B2 N M b k2 bl bl2 d1 d2){r:Rg}(hr:r∈RRo a k u B1 N M bl++RRo b k2 u B2 N M bl2)(hi:aW a k r=true):r∈RRo a k u B1 N M bl:=by
 rcases List.mem_append.1 hr with hr | hr
 ·exact hr
 ·exact absurd ((mA.1 hi).symm.trans (i' hr).1) h.ne
theorem dF.has2(h:dF a k u B1 B2 N M b k2 bl bl2 d1 d2){r:Rg}(hr:r∈RRo a k u B1 N M bl++RRo b k2 u B2 N M bl2)(hi:aW b k2 r=true):r∈RRo b k2 u B2 N M bl2:=by
 rcases List.mem_append.1 hr with hr | hr
 ·exact absurd ((i' hr).1.symm.trans (mA.1 hi)) h.ne
 ·exact hr
theorem wh{α:Type}{p:α→Bool}{l:List α}(h:∀x∈l,p x=false):l.filter p=[]:=List.filter_eq_nil_iff.2 fun x hx=>by rw[h x hx];simp
theorem dF.fl1(h:dF a k u B1 B2 N M b k2 bl bl2 d1 d2){RS:List Rg}(hs:RS.Sublist (RRo a k u B1 N M bl++RRo b k2 u B2 N M bl2)):(RS.filter (aW a k)).length≤255:=by
 have e1:=(hs.filter (aW a k)).length_le
 have e2:(RRo b k2 u B2 N M bl2).filter (aW a k)=[]:=wh fun r hr=>by
  cases hi:aW a k r
  ·rfl
  ·exact absurd ((mA.1 hi).symm.trans (i' hr).1) h.ne
 rw[List.filter_append,e2,List.append_nil]at e1
 have e3:=List.length_filter_le (aW a k) (RRo a k u B1 N M bl)
 have:=h.l1
 omega
theorem dF.fl2(h:dF a k u B1 B2 N M b k2 bl bl2 d1 d2){RS:List Rg}(hs:RS.Sublist (RRo a k u B1 N M bl++RRo b k2 u B2 N M bl2)):(RS.filter (aW b k2)).length≤255:=by
 have e1:=(hs.filter (aW b k2)).length_le
 have e2:(RRo a k u B1 N M bl).filter (aW b k2)=[]:=wh fun r hr=>by
  cases hi:aW b k2 r
  ·rfl
  ·exact absurd ((i' hr).1.symm.trans (mA.1 hi)) h.ne
 rw[List.filter_append,e2,List.nil_append]at e1
 have e3:=List.length_filter_le (aW b k2) (RRo b k2 u B2 N M bl2)
 have:=h.l2
 omega
theorem dF.un(h:dF a k u B1 B2 N M b k2 bl bl2 d1 d2){RS:List Rg}(hs:RS.Sublist (RRo a k u B1 N M bl++RRo b k2 u B2 N M bl2)){now:Nat}(hn:now≤6):∀r∈RS,now+1≤eX r:=fun r hr=>by
 have hu:=h.u
 rcases List.mem_append.1 (hs.subset hr)with hr | hr
 ·rw[(i' hr).2];omega
 ·rw[(i' hr).2];omega
theorem dF.ask1(h:dF a k u B1 B2 N M b k2 bl bl2 d1 d2){RS:List Rg}(hs:RS.Sublist (RRo a k u B1 N M bl++RRo b k2 u B2 N M bl2)){T Q Z now t:Nat}{G:List (Nat×Nat×Nat)}(hT:T≤10)(hZ:Z≤500000000)(hn:now≤6)(ht:t<Q)(hG:G=[]∨∃a b u',G=[(a,b,u')]∧now+1≤u'):nA T Q Z now t a k u B1 N M d1 bl RS G:=
 ⟨hT,hZ,hn,ht,h.f1,h.rs.subl hs,h.un hs hn,hG,h.a,h.k,fun _ hr hi=>h.has1 (hs.subset hr) hi,h.fl1 hs⟩
theorem dF.ask2(h:dF a k u B1 B2 N M b k2 bl bl2 d1 d2){RS:List Rg}(hs:RS.Sublist (RRo a k u B1 N M bl++RRo b k2 u B2 N M bl2)){T Q Z now t:Nat}{G:List (Nat×Nat×Nat)}(hT:T≤10)(hZ:Z≤500000000)(hn:now≤6)(ht:t<Q)(hG:G=[]∨∃a b u',G=[(a,b,u')]∧now+1≤u'):nA T Q Z now t b k2 u B2 N M d2 bl2 RS G:=
 ⟨hT,hZ,hn,ht,h.f2,h.rs.subl hs,h.un hs hn,hG,h.b,h.k2,fun _ hr hi=>h.has2 (hs.subset hr) hi,h.fl2 hs⟩
theorem dF.left(h:dF a k u B1 B2 N M b k2 bl bl2 d1 d2){r:Rg}(hr:r∈RRo a k u B1 N M bl):r∈(RRo a k u B1 N M bl++RRo b k2 u B2 N M bl2).filter fun x=> !aW b k2 x:=by
 refine List.mem_filter.2 ⟨List.mem_append_left _ hr,?_⟩
 cases hi:aW b k2 r
 ·rfl
 ·exact absurd ((i' hr).1.symm.trans (mA.1 hi)) h.ne
theorem dF.gone(h:dF a k u B1 B2 N M b k2 bl bl2 d1 d2)(v:Nat):bK [(b,k2,v)] a k=none∧bK [(b,k2,v)] b k2=some v:=by
 refine⟨?_,?_⟩
 ·show(if b=a∧k2=k then some v else none)=none
  rw[if_neg fun e=>h.ne (by rw[e.1,e.2])]
 ·show(if b=b∧k2=k2 then some v else none)=some v
  rw[if_pos ⟨rfl,rfl⟩]
end
set_option maxRecDepth 1000000
section
variable {P:Program} {H:Heap} {n:Nat} {o:Oper} {r:Operand→Option V}
noncomputable def Af(P:Program)(o:Oper)(r:Operand→Option V):Option F:=match o.op with
 |.convert s d x=>match P.underlying s,P.underlying d,r x with
  |some (.slice e),some .string,some (.u (.f x))=>match P.underlying e with
   |some (.int .u8)=>some x
   |_=>none
  |_,_,_=>none
 |_=>none
def iO(l:List Nat):List UInt8:=l.map fun x=>UInt8.ofNat x
theorem vM:∀(l:List Nat),iE (bs l)=some (iO l)
 |[]=>rfl
 |x::l=>by
  show(match iE (bs l)with | some k=>some (UInt8.ofNat ((x:Int).toNat)::k) | none=>none)=_
  rw[vM l]
  rfl
theorem lP{x:F}{l:List Nat}(hr:aF H 1 x=some (bs l))(hk:Af P o r=some x:=by kernel_rfl):aE P o r H n (vf (.str (iO l))) H n:=by
 unfold Af at hk
 split at hk
 ·rename_i s d y ho
  split at hk
  ·rename_i e x' h1 h2 h3
   split at hk
   ·rename_i h4
    cases hk
    exact .prim (vf (.str (iO l)),[],0) (by simp only[ho,stepOp,h1,h2,h3,h4,hr,vM])
   ·cases hk
  ·cases hk
 ·cases hk
noncomputable def Ai(P:Program)(o:Oper)(r:Operand→Option V):Option (List UInt8×List UInt8):=match o.op with
 |.binOp .eql t x y _=>match r x,r y,P.underlying t with
  |some (.u (.f (.str a))),some (.u (.f (.str b))),some .string=>some (a,b)
  |_,_,_=>none
 |_=>none
theorem tD{a b:List UInt8}(h:a=b)(hk:Ai P o r=some (a,b):=by kernel_rfl):aE P o r H n (vf (.bool true)) H n:=by
 subst h
 unfold Ai at hk
 split at hk
 ·rename_i t x y t' ho
  split at hk
  ·rename_i a' b' h1 h2 h3
   cases hk
   exact .prim (vf (.bool true),[],0) (by simp only[ho,stepOp,h1,h2,aU,eC,h3];simp)
  ·cases hk
 ·cases hk
end
theorem vn{X:Heap}{n:Nat}{fd:F}{sz mo:Int}(data:List Nat)(hd:Cm.cd fd=some data.length)(ht:ap X n):af 7 [vf (fd),vf (.int .i64 (sz)),vf (.int .i64 (mo))] X n fun v X'=>∃b,v=vf (.bool b)∧(b=true→1≤data.length∧data.length≤60∧1≤sz∧sz≤20∧1≤mo∧mo≤8):=by
 refine af.of_to kr ?_
 have s0:=aa.ini ht
 have hm0:ab X X:=ab.rfl
 refine ah 1 (ai 1 (ov 8 (lv data.length hd) ?_))
 by_cases g1:1≤data.length
 ·refine ov 9 (hT data.length 1) (go 2 (ov 12 (lv data.length hd) ?_))
  by_cases g2:data.length≤60
  ·refine ov 13 (kT data.length 60) ?_
   by_cases g3:1≤sz
   ·obtain⟨N,rfl⟩:∃N:Nat,sz=N:=⟨sz.toNat,om⟩
    refine go 3 (ov 17 (hT N 1) ?_)
    by_cases g4:(N:Int)≤20
    ·refine go 3 (ov 21 (kT N 20) ?_)
     by_cases g5:1≤mo
     ·refine go 3 (ov 25 (au (yT .i64 (x:=(mo)) (y:=(1:Int)) om)) ?_)
      by_cases g6:mo≤8
      ·refine go 3 (ov 29 (au (sC .i64 (x:=(mo)) (y:=(8:Int)) om)) (go 3 (ov 33 (lv data.length hd) (go 1 (ov 35 (au (op:=.quo) (a:=vi data.length) (b:=vi N) (pC data.length N om om)) ?_)))))
       by_cases g7:data.length/N≤16
       ·refine ov 36 (kT (data.length/N) 16) (ax 2 ?_)
        exact⟨.inr rfl,_,kr,X,_,s0,hm0,true,rfl,fun _=>⟨om,om,om,om,om,om⟩⟩
       ·refine ov 36 (kF (data.length/N) 16) (ax 2 ?_)
        exact⟨.inr rfl,_,kr,X,_,s0,hm0,false,rfl,fun h=>by cases h⟩
      ·refine go 3 (ov 29 (au (yV .i64 (x:=(mo)) (y:=(8:Int)) om)) (ax 9 ?_))
       exact⟨.inr rfl,_,kr,X,_,s0,hm0,false,rfl,fun h=>by cases h⟩
     ·refine go 3 (ov 25 (au (gS .i64 (x:=(mo)) (y:=(1:Int)) om)) (ax 13 ?_))
      exact⟨.inr rfl,_,kr,X,_,s0,hm0,false,rfl,fun h=>by cases h⟩
    ·refine go 3 (ov 21 (kF N 20) (ax 17 ?_))
     exact⟨.inr rfl,_,kr,X,_,s0,hm0,false,rfl,fun h=>by cases h⟩
   ·refine go 3 (ov 17 (au (gS .i64 (x:=(sz)) (y:=(1:Int)) om)) (ax 21 ?_))
    exact⟨.inr rfl,_,kr,X,_,s0,hm0,false,rfl,fun h=>by cases h⟩
  ·refine ov 13 (kF data.length 60) (ax 25 ?_)
   exact⟨.inr rfl,_,kr,X,_,s0,hm0,false,rfl,fun h=>by cases h⟩
 ·refine ov 9 (hF data.length 1) (ax 29 ?_)
  exact⟨.inr rfl,_,kr,X,_,s0,hm0,false,rfl,fun h=>by cases h⟩
section
variable {X:Heap} {n sw now Q:Nat} {ps:List aq} {fl:List Lt} {P0:List (Nat×O)}
theorem Bd(hsw:bv X sw ps fl now P0){RS:List Rg}{Z:Nat}(hR:dp RS)(hnow:now≤1000)(hZ:Z≤100000000)(h:dA Q RS Z ps fl):al 20 [vf (.ptr sw 0)] X n P0 fun v X' P'=>∃f P1 Pc ps2,v=vf f∧P'=cat [P1,Pc]∧cN 0 Q RS [] Z ps2∧bv X' sw ps2 [] now P1:=
 (nX hsw (dA.calm hR hnow hZ) ⟨h,rfl⟩ (Nat.lt_of_le_of_lt h.fl om)).imp fun v X' P' q=>by
  obtain⟨f,gs,Pc,an,ps2,P1,rfl,rfl,_,_,⟨hJ,_⟩,_,h2⟩:=q
  exact⟨f,P1,Pc,ps2,rfl,rfl,hJ.hold,h2⟩
theorem BO{T f ip ik u Z:Nat}{RS:List Rg}{ps0:List aq}{l:List Nat}(hsw:bv X sw ps (l.map fun k=>l_ f k (.tb ip ik u)) now P0)(h0:cN T Q RS [] Z ps0)(hR:dp RS)(hf:f<Q)(hnow:now≤1000)(hZ:Z≤100000000)(h1:ip≤1000)(h2:1≤ik)(h3:ik≤1000)(h4:u≤100000)(h:ib T Q f ip ik u ps0 ps l):al 20 [vf (.ptr sw 0)] X n P0 fun v X' P'=>∃f P1 Pc ps2,v=vf f∧P'=cat [P1,Pc]∧cN T Q (RS.filter fun x=> !aW ip ik x) [(ip,ik,u)] (Z+1000) ps2∧bv X' sw ps2 [] now P1:=by
 have hll:l.length≤Q:=by
  have:=h.nod.length_le_of_subset (l₂:=List.range Q) fun a ha=>List.mem_range.2 (h.lt a ha).1
  rwa [List.length_range]at this
 have hQ:=h0.q4
 refine(nX hsw (ib.calm h0 hR hf hnow hZ h1 h2 h3 h4) ⟨⟨l,rfl,h⟩,rfl⟩ (by rw[List.length_map];omega)).imp fun v X' P' q=>?_
 obtain⟨f,gs,Pc,an,ps2,P1,rfl,rfl,_,_,⟨⟨l2,hl2,hJ⟩,_⟩,_,h2⟩:=q
 have:l2=[]:=List.map_eq_nil_iff.1 hl2.symm
 subst this
 exact⟨f,P1,Pc,ps2,rfl,rfl,hJ.ends h0,h2⟩
theorem Dj{T f ip ik Z:Nat}{RS:List Rg}{s:aq}(hsw:bv X sw ps [] now P0)(h:cN T Q RS [] Z ps)(hR:dp RS)(hs:ps[f]?=some s)(hnow:now≤1000)(hZ:Z≤100000000)(h1:ip≤1000)(h2:1≤ik)(h3:ik≤1000):al 22 [vf (.ptr sw 0),.u (.agg [.int .i64 3,iN f,.int .i64 0,.int .i64 0,iN ip,iN ik,.sl0])] X n P0 fun v X' P'=>∃g ps2,∃l:List Nat,v=.tup [.f g,.f (.int .i64 0)]∧ib T Q f ip ik (now+9000) ps ps2 l∧bv X' sw ps2 (l.map fun k=>l_ f k (.tb ip ik (now+9000))) now P':=by
 obtain⟨q1,q2,q3⟩:=h.pe f s hs
 obtain⟨R,hRs⟩:=h.sub hs
 have hsl:=(hR.sub hRs).len
 have hn:=q1.n
 subst hn
 have hQ:=h.q4
 have hnl:=q1.kn.nlt
 refine(B0 (pe:=s.n) (en:=0) (em:=0) (ip:=ip) (ik:=ik) (ed:=.sl0) hsw hs hnow h1 h2 om om (fun k hk=>by have:=q1.kn.lt k hk;omega) q1.kn.self q1.kn.len (by rw[q2];rfl) om om sm).imp fun v X' P' q=>?_
 obtain⟨g,l,st2,h5,_,h6,h7,h8,h9⟩:=q
 rw[yf,List.nil_append]at h9
 exact⟨g,_,_,h5,ib.start h hs h6 h7 h8,h9⟩
theorem nU{T t ip ik u B N M Z:Nat}{RS:List Rg}{G:List (Nat×Nat×Nat)}{bl:List (Nat×List (List Nat))}{s0:aq}{E:Int→List Nat→Prop}(hsw:bv X sw ps [] now P0)(h:cN T Q RS G Z ps)(h0:ps[t]?=some s0)(hc:cC Q now t ip ik u B N M bl ps s0 E):al 21 [vf (.ptr sw 0),vi t,.u (.agg [iN ip,iN ik])] X n P0 fun v X' P'=>∃a b e c d g dt ps3,v=.tup [.agg [iN a,iN b,.int .i64 e,iN c,iN d,g],.f (.bool true)]∧E e dt∧aB X' g dt∧cN (T+1) Q RS G Z ps3∧bv X' sw ps3 [] (now+1) P':=by
 obtain⟨q1,q2,q3,q4,q5⟩:=hc.pe t s0 h0
 have hnow:=hc.nw
 have hwl:=q1.wl
 have htg:=q1.tag
 have hkl:=q1.kn.len
 refine(Ed hsw rfl h0 q1.op om (by rw[q1.ws];exact Nat.zero_le _) om om om q2 om (hc.rs rfl rfl (fun r hr=>?_) ?_) (fun ls s2 hf=>(hc.find hf).1) hc.calm (fun ls s2 hf=>(hc.find hf).2) hc.ends).imp fun v X' P' q=>?_
 ·obtain⟨h1,h2⟩:=List.mem_filter.1 (show r∈s0.st.sy.filter (aW ip ik)from hr)
  exact hc.mem t s0 h0 r h1 h2
 ·have:=hc.fl t s0 h0
  show(s0.st.sy.filter (aW ip ik)).length<4000
  omega
 ·obtain⟨c,x,ps3,ls,rfl,⟨g,rfl,hg⟩,hK,h2⟩:=q
  obtain⟨g1,g2,rfl,g4⟩:=h.asked h0 hK
  exact⟨x.peer,x.tag,x.err,x.ip,x.ik,g,x.d,ps3,by rw[decide_eq_true g1],g2,hg,g4,h2⟩
end
theorem CH{X:Heap}{n:Nat}{pq pa pb:Int}{fd fo:F}{sz mo:Int}(hw:∀(X:Heap) (n:Nat),ap X n→af 6 [] X n fun v _=>v=vf (.bool true))(data other:List Nat)(hd0:Cm.cd fd=some data.length)(hd1:0<data.length→data.length≤60→aB X fd data)(hcp1:eO fd)(ho0:Cm.cd fo=some other.length)(ho1:0<other.length→other.length≤60→aB X fo other)(hcp2:eO fo)(ht:ap X n):af 5 [vf (.int .i64 (pq)),vf (.int .i64 (pa)),vf (.int .i64 (pb)),vf (fd),vf (fo),vf (.int .i64 (sz)),vf (.int .i64 (mo))] X n fun v _=>v=vf (.bool true):=by
 refine af.of_to kr ?_
 have s0:aa X X n (cat [[]]):=aa.ini ht
 have hm0:ab X X:=ab.rfl
 refine ah 1 (ag ?_)
 obtain⟨_,W,_,_,m,G,J,rfl⟩:=(hw _ _ s0.topX).on s0
 have hm0:=hm0.tr m
 have hd1:=fun q1 q2=>(hd1 q1 q2).mono m
 have ho1:=fun q1 q2=>(ho1 q1 q2).mono m
 refine ov 29 (J _ _) ?_
 by_cases g1:pq<1
 ·refine ae 1 (aP 4 (ov 34 (au (eK .i64 (x:=(pq)) (y:=(1:Int)) om)) (ae 37 (iT (ah 2 (rt ?_))))))
  exact⟨.inr rfl,_,kr,W,_,G,hm0,rfl⟩
 ·refine ae 1 (aP 4 (ov 34 (au (cr .i64 (x:=(pq)) (y:=(1:Int)) om)) ?_))
  by_cases g2:4<pq
  ·refine go 3 (ov 38 (au (sO .i64 (x:=(pq)) (y:=(4:Int)) om)) (ae 33 (iT (ah 2 (rt ?_)))))
   exact⟨.inr rfl,_,kr,W,_,G,hm0,rfl⟩
  ·refine go 3 (ov 38 (au (sS .i64 (x:=(pq)) (y:=(4:Int)) om)) ?_)
   obtain⟨Q,rfl⟩:∃Q:Nat,pq=Q:=⟨pq.toNat,om⟩
   by_cases g3:pa<0
   ·refine go 3 (ov 42 (au (eK .i64 (x:=(pa)) (y:=(0:Int)) om)) (ae 29 (iT (ah 2 (rt ?_)))))
    exact⟨.inr rfl,_,kr,W,_,G,hm0,rfl⟩
   ·refine go 3 (ov 42 (au (cr .i64 (x:=(pa)) (y:=(0:Int)) om)) ?_)
    obtain⟨a,rfl⟩:∃a:Nat,pa=a:=⟨pa.toNat,om⟩
    by_cases g4:Q≤a
    ·refine go 4 (ov 47 (hT a Q) (ae 24 (iT (ah 2 (rt ?_)))))
     exact⟨.inr rfl,_,kr,W,_,G,hm0,rfl⟩
    ·refine go 4 (ov 47 (hF a Q) ?_)
     by_cases g5:pb<0
     ·refine go 3 (ov 51 (au (eK .i64 (x:=(pb)) (y:=(0:Int)) om)) (ae 20 (iT (ah 2 (rt ?_)))))
      exact⟨.inr rfl,_,kr,W,_,G,hm0,rfl⟩
     ·refine go 3 (ov 51 (au (cr .i64 (x:=(pb)) (y:=(0:Int)) om)) ?_)
      obtain⟨b,rfl⟩:∃b:Nat,pb=b:=⟨pb.toNat,om⟩
      by_cases g6:Q≤b
      ·refine go 4 (ov 56 (hT b Q) (ae 15 (iT (ah 2 (rt ?_)))))
       exact⟨.inr rfl,_,kr,W,_,G,hm0,rfl⟩
      ·refine go 4 (ov 56 (hF b Q) ?_)
       obtain⟨v,Xq,nq,hc,hm,ht2,b1,rfl,hb1⟩:=vn (sz:=sz) (mo:=mo) data hd0 G.topX
       cases b1
       ·refine go 5 ?_
        obtain⟨_,W,_,_,m1,G,J,rfl⟩:=(af.same hc hm ht2).on G
        have hm0:=hm0.tr m1
        refine ov 62 (J _ _) (ae 9 (iT (ah 2 (rt ?_))))
        exact⟨.inr rfl,_,kr,W,_,G,hm0,rfl⟩
       ·refine go 5 ?_
        obtain⟨_,_,_,_,m2,G,J,rfl⟩:=(af.same hc hm ht2).on G
        have hm0:=hm0.tr m2
        have hd1:=fun q1 q2=>(hd1 q1 q2).mono m2
        have ho1:=fun q1 q2=>(ho1 q1 q2).mono m2
        refine ov 62 (J _ _) ?_
        have hb1:=hb1 rfl
        obtain⟨v,Xr,nr,hc2,hm2,ht3,b2,rfl,hb2⟩:=vn (sz:=sz) (mo:=mo) other ho0 G.topX
        cases b2
        ·refine go 6 ?_
         obtain⟨_,W,_,_,m3,G,J,rfl⟩:=(af.same hc2 hm2 ht3).on G
         have hm0:=hm0.tr m3
         refine ov 69 (J _ _) (ae 2 (iT (ah 2 (rt ?_))))
         exact⟨.inr rfl,_,kr,W,_,G,hm0,rfl⟩
        ·refine go 6 ?_
         obtain⟨_,_,_,_,m4,G,J,rfl⟩:=(af.same hc2 hm2 ht3).on G
         have hd1:=fun q1 q2=>(hd1 q1 q2).mono m4
         have ho1:=fun q1 q2=>(ho1 q1 q2).mono m4
         refine ov 69 (J _ _) ?_
         have hb2:=hb2 rfl
         have hrow:=hd1 om om
         have hro:=ho1 om om
         obtain⟨N,rfl⟩:∃N:Nat,sz=N:=⟨sz.toNat,om⟩
         obtain⟨M,rfl⟩:∃M:Nat,mo=M:=⟨mo.toNat,om⟩
         have hS1:b7 data.length N M:=⟨om,om,om,om,om,om⟩
         have hS2:b7 other.length N M:=⟨om,om,om,om,om,om⟩
         refine ae 2 (ar (nx (ai 1 ?_)))
         obtain⟨_,_,_,_,P1,m5,G,J,⟨sw,ps,rfl,hK,hsw⟩⟩:=(BI (J0:=co Q) (mu:=fun _ fl=>dN fl) om co.calm co.mu (fun ps fl i k h hi hk hl=>h.join hi hk hl) om (co.start om om) G.topX).on G
         refine ov 74 (J _ _) (ae 1 (sq (ah 2 (ar (nx (aP 2 ?_))))))
         obtain⟨_,W,_,_,P2,m6,G,J,⟨kb,rfl,hall,hsw⟩⟩:=(Dm hsw om om hK.len hK.kl).on [_] [] G
         have hm0:=hm0.tr (m4.tr (m5.tr m6))
         have hrow:=hrow.mono (m5.tr m6)
         have hro:=hro.mono (m5.tr m6)
         refine ov 79 (J _ _) ?_
         cases kb
         ·refine ae 1 (iT (ah 1 (rt ?_)))
          exact⟨.inr rfl,_,kr,W,_,G,hm0,rfl⟩
         ·have hall:=hall rfl
          obtain⟨s,hs⟩:∃s,ps[a]?=some s:=⟨_,List.getElem?_eq_getElem (by rw[hK.len];omega)⟩
          have hp1:=hK.putOk hall hs
          refine ae 1 (ar (nx (ai 5 ?_)))
          obtain⟨_,_,_,n1,P3,m7,G,J,⟨ids,ok,ls,s2,rfl,hpo,hsw⟩⟩:=(rn (pe:=a) (B:=data.length) (N:=N) (M:=M) (fd:=fd) (data:=data) hsw hs hS1 hrow rfl hcp1 hrow.2.1 om hp1.n hp1.kl hp1.la hp1.gu hp1.dis hp1.sy hp1.lg hp1.kb sm).on [_] [] G
          have hm0:=hm0.tr m7
          have hrow:=hrow.mono m7
          have hro:=hro.mono m7
          refine ov 87 (J _ _) ?_
          rcases hpo with⟨rfl,rfl,rfl,rfl⟩|⟨rfl,hids,hsv⟩
          ·rw[rN hs,List.append_nil]at hsw
           obtain⟨t,ht0⟩:∃s,ps[b]?=some s:=⟨_,List.getElem?_eq_getElem (by rw[hK.len];omega)⟩
           have hp2:=hK.putOk hall ht0
           refine go 3 ?_
           obtain⟨_,G,J⟩:=ay G (.cells [.int .i64 0,.int .i64 0] true)
           refine ov 17 (J _ _ (vf (.ptr (n1) (0)))) ?_
           obtain⟨_,G,J⟩:=aI (off:=0) (new:=[.int .i64 0,.int .i64 0]) (cs':=[.int .i64 0,.int .i64 0]) G 0 rfl sm rfl
           refine oe (J _ _) (ae 1 (ai 5 ?_))
           obtain⟨_,W,_,n4,P4,m8,G,J,⟨ids2,ok2,ls2,s3,rfl,hpo2,hsw⟩⟩:=(rn (pe:=b) (B:=other.length) (N:=N) (M:=M) (fd:=fo) (data:=other) hsw ht0 hS2 hro rfl hcp2 hro.2.1 om hp2.n hp2.kl hp2.la hp2.gu hp2.dis hp2.sy hp2.lg hp2.kb sm).on [_] [] G
           have hm0:=hm0.tr m8
           refine ov 96 (J _ _) ?_
           rcases hpo2 with⟨rfl,rfl,rfl,rfl⟩|⟨rfl,rfl,hsv2⟩
           ·refine go 3 ?_
            obtain⟨_,G,J⟩:=ay G (.cells [.int .i64 0,.int .i64 0] true)
            refine ov 19 (J _ _ (vf (.ptr (n4) (0)))) ?_
            obtain⟨_,G,J⟩:=aI (off:=0) (new:=[.int .i64 0,.int .i64 0]) (cs':=[.int .i64 0,.int .i64 0]) G 0 rfl sm rfl
            refine oe (J _ _) (ae 1 (sq (ah 6 (iT (ah 1 (rt ?_))))))
            exact⟨.inr rfl,_,kr,W,_,G,hm0,rfl⟩
           ·refine go 3 ?_
            obtain⟨_,G,J⟩:=ay G (.cells [.int .i64 0,.int .i64 0] true)
            refine ov 19 (J _ _ (vf (.ptr (n4) (0)))) ?_
            obtain⟨_,G,J⟩:=aI (off:=0) (new:=[iN t.n,iN (t.last+1)]) (cs':=[iN t.n,iN (t.last+1)]) G 0 rfl sm rfl
            refine oe (J _ _) (ae 1 (sq (ah 6 (iT (ah 1 (rt ?_))))))
            exact⟨.inr rfl,_,kr,W,_,G,hm0,rfl⟩
          ·obtain⟨na,lq⟩:=hK.lasts hs
           have lq:s.last+1=1:=by omega
           rw[na,lq]at hids
           subst hids
           rw[List.nil_append]at hsw
           obtain⟨bl,f1,r1,rl1,hI,hll,n2,la2⟩:=hK.put1 hall hs hS1 hrow.2.1 hsv
           obtain⟨t,ht0⟩:∃t,(ps.set a s2)[b]?=some t:=⟨_,List.getElem?_eq_getElem (by rw[List.length_set,hK.len];omega)⟩
           obtain⟨k2,n3,hk2,hp2,hne,hput2⟩:=hK.put2 (other:=other) hs f1 n2 la2 hI r1 rl1 hll ht0
           refine go 3 ?_
           obtain⟨_,G,J⟩:=ay G (.cells [.int .i64 0,.int .i64 0] true)
           refine ov 17 (J _ _ (vf (.ptr (n1) (0)))) ?_
           obtain⟨_,G,J⟩:=aI (off:=0) (new:=[iN a,iN 1]) (cs':=[iN a,iN 1]) G 0 rfl sm rfl
           refine oe (J _ _) (ae 1 (ai 5 ?_))
           obtain⟨_,W,_,n5,P4,m9,G,J,⟨ids2,ok2,ls2,s3,rfl,hpo2,hsw⟩⟩:=(rn (pe:=b) (B:=other.length) (N:=N) (M:=M) (fd:=fo) (data:=other) hsw ht0 hS2 hro rfl hcp2 hro.2.1 om hp2.n hp2.kl hp2.la hp2.gu hp2.dis hp2.sy hp2.lg hp2.kb om).on [_] [] G
           have hm0:=hm0.tr m9
           have hrow:=hrow.mono m9
           have hro:=hro.mono m9
           refine ov 96 (J _ _) ?_
           rcases hpo2 with⟨rfl,rfl,rfl,rfl⟩|⟨rfl,hids2,hsv2⟩
           ·refine go 3 ?_
            obtain⟨_,G,J⟩:=ay G (.cells [.int .i64 0,.int .i64 0] true)
            refine ov 19 (J _ _ (vf (.ptr (n5) (0)))) ?_
            obtain⟨_,G,J⟩:=aI (off:=0) (new:=[.int .i64 0,.int .i64 0]) (cs':=[.int .i64 0,.int .i64 0]) G 0 rfl sm rfl
            refine oe (J _ _) (ae 1 (sq (ah 6 (iT (ah 1 (rt ?_))))))
            exact⟨.inr rfl,_,kr,W,_,G,hm0,rfl⟩
           ·rw[n3,hk2]at hids2
            subst hids2
            obtain⟨bl2,hTwo,hI2⟩:=hput2 ls2 s3 hS2 hro.2.1 hsv2
            have hka:=hTwo.a
            have hkb:=hTwo.b
            have hk0:=hTwo.k0
            have hkk:=hTwo.k2
            have hla:a<Q:=by omega
            have hlb:b<Q:=by omega
            refine go 3 ?_
            obtain⟨_,G,J⟩:=ay G (.cells [.int .i64 0,.int .i64 0] true)
            refine ov 19 (J _ _ (vf (.ptr (n5) (0)))) ?_
            obtain⟨_,G,J⟩:=aI (off:=0) (new:=[iN b,iN k2]) (cs':=[iN b,iN k2]) G 0 rfl sm rfl
            refine oe (J _ _) (ae 1 (sq (ah 6 (ar (nx (ai 1 ?_))))))
            obtain⟨_,_,_,_,Q5,m10,G,J,⟨f1,P5,Pc,ps1,rfl,rfl,hH1,hsw⟩⟩:=(Bd hsw hTwo.rs om om hI2).on [_] [] G
            refine ov 106 (J _ _) (aj ?_)
            have G:=aa.unp [_] [] [_,_] G
            have G:=aa.rid [_,_] [] G
            obtain⟨_,h1,_⟩:=hH1.at hlb
            refine ai 2 (ov 110 (la 0 2 [iN a,iN 1] (G.at 1 rfl)) ?_)
            obtain⟨_,_,_,n6,P6,m11,G,J,⟨x1,y1,e1,z1,w1,g1,d1,ps2,rfl,⟨rfl,hq1⟩,hg1,hH2,hsw⟩⟩:=(nU hsw hH1 h1 (hH1.lives (hTwo.ask1 (t:=b) (now:=0) (List.Sublist.refl _) om om om hlb (.inl rfl)) h1 rfl (fun r hr=>List.mem_append_left _ hr))).on [_] [] G
            refine ov 111 (J _ _) ?_
            rw[hq1]at hg1
            obtain⟨_,h2,_⟩:=hH2.at hla
            refine go 3 ?_
            obtain⟨_,G,J⟩:=ay G (.cells [.int .i64 0,.int .i64 0,.int .i64 0,.int .i64 0,.int .i64 0,.sl0] true)
            refine ov 21 (J _ _ (vf (.ptr (n6) (0)))) ?_
            obtain⟨_,G,J⟩:=aI (off:=0) (new:=[iN x1,iN y1,.int .i64 0,iN z1,iN w1,g1]) (cs':=[iN x1,iN y1,.int .i64 0,iN z1,iN w1,g1]) G 0 rfl sm rfl
            refine oe (J _ _) (ae 1 (ai 2 (ov 117 (la 0 2 [iN b,iN k2] (G.at 1 rfl)) ?_)))
            obtain⟨_,_,_,n7,P7,m12,G,J,⟨x2,y2,e2,z2,w2,g2,d2,ps3,rfl,⟨rfl,hq2⟩,hg2,hH3,hsw⟩⟩:=(nU hsw hH2 h2 (hH2.lives (hTwo.ask2 (t:=a) (now:=1) (List.Sublist.refl _) om om om hla (.inl rfl)) h2 rfl (fun r hr=>List.mem_append_right _ hr))).on [_] [] G
            refine ov 118 (J _ _) ?_
            rw[hq2]at hg2
            obtain⟨_,h3,_⟩:=hH3.at hla
            refine go 3 ?_
            obtain⟨_,G,J⟩:=ay G (.cells [.int .i64 0,.int .i64 0,.int .i64 0,.int .i64 0,.int .i64 0,.sl0] true)
            refine ov 23 (J _ _ (vf (.ptr (n7) (0)))) ?_
            obtain⟨_,G,J⟩:=aI (off:=0) (new:=[iN x2,iN y2,.int .i64 0,iN z2,iN w2,g2]) (cs':=[iN x2,iN y2,.int .i64 0,iN z2,iN w2,g2]) G 0 rfl sm rfl
            refine oe (J _ _) (ae 1 (ai 2 (ov 123 (la 0 2 [iN b,iN k2] (G.at 2 rfl)) (go 1 ?_))))
            obtain⟨_,_,_,_,P8,m13,G,J,⟨fq,ps4,l,rfl,hD,hsw⟩⟩:=(Dj hsw hH3 hTwo.rs h3 om om hkb hk0 hkk).on [_] [] G
            refine ov 125 (J _ _) (aj (ai 1 ?_))
            obtain⟨_,_,_,_,Q9,m14,G,J,⟨f2,P9,Pd,ps5,rfl,rfl,hH3,hsw⟩⟩:=(BO hsw hH3 hTwo.rs hla om om hkb hk0 hkk om hD).on [_] [] G
            refine ov 127 (J _ _) (aj ?_)
            have G:=aa.unp [_] [] [_,_] G
            have G:=aa.rid [_,_] [] G
            obtain⟨_,h4,_⟩:=hH3.at hlb
            refine ai 2 (ov 131 (la 0 2 [iN a,iN 1] (G.at 3 rfl)) ?_)
            obtain⟨_,_,_,n8,_,m15,G,J,⟨x3,y3,e3,z3,w3,g3,d3,ps4,rfl,⟨rfl,hq3⟩,hg3,hH4,hsw⟩⟩:=(nU hsw hH3 h4 (hH3.lives (hTwo.ask1 (t:=b) (now:=2) List.filter_sublist om om om hlb (.inr ⟨_,_,_,rfl,om⟩)) h4 (hTwo.gone 9002).1 (fun r hr=>hTwo.left hr))).on [_] [] G
            refine ov 132 (J _ _) ?_
            rw[hq3]at hg3
            obtain⟨_,h5,_⟩:=hH4.at hlb
            refine go 3 ?_
            obtain⟨_,G,J⟩:=ay G (.cells [.int .i64 0,.int .i64 0,.int .i64 0,.int .i64 0,.int .i64 0,.sl0] true)
            refine ov 25 (J _ _ (vf (.ptr (n8) (0)))) ?_
            obtain⟨_,G,J⟩:=aI (off:=0) (new:=[iN x3,iN y3,.int .i64 0,iN z3,iN w3,g3]) (cs':=[iN x3,iN y3,.int .i64 0,iN z3,iN w3,g3]) G 0 rfl sm rfl
            refine oe (J _ _) (ae 1 (ai 2 (ov 138 (la 0 2 [iN b,iN k2] (G.at 3 rfl)) ?_)))
            obtain⟨_,W,_,n9,_,m16,G,J,⟨x4,y4,e4,z4,w4,g4,d4,ps5,rfl,rfl,hg4,hH5,hsw⟩⟩:=(nU hsw hH4 h5 (hH4.gones (hTwo.ask2 (t:=b) (now:=3) List.filter_sublist om om om hlb (.inr ⟨_,_,_,rfl,om⟩)) h5 (hTwo.gone 9002).2)).on [_] [] G
            have hm0:=hm0.tr (m10.tr (m11.tr (m12.tr (m13.tr (m14.tr (m15.tr m16))))))
            have hrow:=hrow.mono (m10.tr (m11.tr (m12.tr (m13.tr (m14.tr (m15.tr m16))))))
            have hro:=hro.mono (m10.tr (m11.tr (m12.tr (m13.tr (m14.tr (m15.tr m16))))))
            have hg1:=hg1.mono (m12.tr (m13.tr (m14.tr (m15.tr m16))))
            have hg2:=hg2.mono (m13.tr (m14.tr (m15.tr m16)))
            have hg3:=hg3.mono m16
            refine ov 139 (J _ _) (go 3 ?_)
            obtain⟨_,G,J⟩:=ay G (.cells [.int .i64 0,.int .i64 0,.int .i64 0,.int .i64 0,.int .i64 0,.sl0] true)
            refine ov 27 (J _ _ (vf (.ptr (n9) (0)))) ?_
            obtain⟨_,G,J⟩:=aI (off:=0) (new:=[iN x4,iN y4,.int .i64 7,iN z4,iN w4,g4]) (cs':=[iN x4,iN y4,.int .i64 7,iN z4,iN w4,g4]) G 0 rfl sm rfl
            refine oe (J _ _) (ae 1 (ag (ov 142 (la 0 2 [iN a,iN 1] (G.at 5 rfl)) (ov 143 (la 0 2 [iN b,iN k2] (G.at 4 rfl)) (ov 144 (jo (e:=false) (z:=true) (ks:=[true,true]) (xs:=[iN a,iN 1]) (ys:=[iN b,iN k2]) (by simp only[cm,if_true];congr 1;rw[Bool.eq_iff_iff];simp;omega)) (go 14 (ov 159 (ld 5 (G.at 3 rfl) rfl) (ov 160 (lP (l:=data) (aO G.mono hg1.1)) (go 1 (ov 162 (lP (l:=data) (aO G.mono hrow.1)) (ov 163 (tD (a:=iO data) (b:=iO data) rfl) (go 3 (ov 167 (ld 5 (G.at 2 rfl) rfl) (ov 168 (lP (l:=other) (aO G.mono hg2.1)) (go 1 (ov 170 (lP (l:=other) (aO G.mono hro.1)) (ov 171 (tD (a:=iO other) (b:=iO other) rfl) (go 3 (ov 175 (ld 5 (G.at 1 rfl) rfl) (ov 176 (lP (l:=data) (aO G.mono hg3.1)) (go 1 (ov 178 (lP (l:=data) (aO G.mono hrow.1)) (ov 179 (tD (a:=iO data) (b:=iO data) rfl) (go 3 (ov 183 (ld 2 (G.at 0 rfl) rfl) (ov 184 (eT 7 7) (ax 2 ?_)))))))))))))))))))))))))))
            exact⟨.inr rfl,_,kr,W,_,G,hm0,rfl⟩
end Go.Proofs.YtkimkgbppegkhaaGreat.Cm
