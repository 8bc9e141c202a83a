/- Plain theorems and definitions of this seat, several texts in one. -/
import Derived.Test.YtipdkfmhfakbnaaGreatDoorAa
set_option linter.unusedVariables false
set_option linter.unusedSimpArgs false
set_option linter.unusedSectionVars false
namespace Go.Q
open Go Go.RowKit Go.X
variable [eT]
section
variable {P:Program} {tb:List (dG P)} {ty:TypeId} {L:SS} {sv:Option Sv} {ef:Ef} {e:Env} {w:World}
theorem gk{t:Nat}{T:dG P}(h:cC tb t=some T):P.underlying t=some T.d:=by rw[<-Be h];exact T.hd
theorem fQ{t:Nat}{T:dG P}(h:cC tb t=some T):TI P t T.sz T.qA T.z:=by rw[<-Be h];exact T.ti
theorem beq0{n:Nat}(h:Nat.beq n 0=false):(n==0)=false:=by
 cases n with
 |zero=>cases h
 |succ n=>rfl
theorem tG{ν:Nu}{H:Bool->Hp}{g:Bool}{sz off:Nat}{l:List Lf}{vs:List Value}{s:S1}(h:sh g sz l off=some s)(hl:cR ν H l vs):
 (g=false/\∃v,vs[off]?=some v/\s.R ν H v)\/(g=true/\∃us,us.length=sz/\(vs.drop off).take us.length=us/\s.R ν H (.agg us.toArray)):=by
 unfold sh at h;split at h
 . split at h
   . rename_i hb;cases h;have e1:=dH hb;have h1:=(hl.drop off).take sz;have h2:=h1.length;refine .inr ⟨rfl,_,h2.trans e1,?_,_,rfl,h1⟩;rw[h2,e1]
   . cases h
 . split at h
   . rename_i x hx;cases h;obtain⟨y,g1,g2⟩:=hl.get hx;exact .inl ⟨rfl,y,g1,g2⟩
   . cases h
theorem Jt{ν:Nu}{j off:Nat}{l:List Lf}{v:Value}{H:Bool->Hp}(hO:∀i ob,aQ L.bC i=some ob->∃b c n k,ν i=some (b,c,n)/\dC w b k/\ob.R ν H c n k)(hp:Lf.R ν H (.ptr j off) v)(ho:aQ L.bC j=some (.box l)):
 ∃b vs,v=.pointer (some ⟨b,off,none⟩)/\dC w (some b) (.cells vs)/\cR ν H l vs:=by
 obtain⟨b,c,h1,h2⟩:=hp;obtain⟨b',c',n',k,g1,g2,vs,g3,g4⟩:=hO j _ ho;rw[h1]at g1;cases g1;subst g3;exact⟨b,vs,h2,g2,g4⟩
theorem IV{ν:Nu}{H:Bool->Hp}{sz:Nat}(hS:di ν H (aQ L.bQ) e):∀{parts:List (Nat×Operand)} {l:List Lf} (k:Nat),arC L sz parts=some l->Aa k parts=true->
 ∃(vs:List Value) (css:List (List Value)),(parts.map fun p=>(p.1,ev e p.2))=mb k vs/\so sz vs css/\cR ν H l css.flatten/\vs.length=parts.length
 |[],_,k,h,_=>by cases h;exact⟨[],[],rfl,trivial,rfl,rfl⟩
 |(i,x)::r,_,k,h,hn=>by
  simp only[arC]at h;simp only[Aa,fG]at hn;split at h
  . rename_i s hx;split at h
    . rename_i hb;split at h
      . rename_i y hy;cases h;obtain⟨us,u1,u2⟩:=rY (cW hS hx);obtain⟨vs,css,g1,g2,g3,g4⟩:=IV hS (k+1) hy hn.2;have e1:us.length=sz:=by rw[u2.length];exact dH hb
        have e2:=dH hn.1;subst e2;exact⟨ev e x::vs,us::css,by simp only[jY,g1,mb],⟨u1,e1,g2⟩,u2.append g3,by simp[g4]⟩
      . cases h
    . cases h
  . cases h
theorem Kc:∀{fs:List Field} {pl:List (Nat×Nat)},pls tb fs=some pl->placesOf P fs=some pl
 |[],_,h=>by cases h;rfl
 |f::r,_,h=>by
  simp only[pls]at h;split at h
  . rename_i F hF;split at h
    . rename_i y hy;cases h;obtain⟨i,h1,h2,_⟩:=fQ hF;have:=Kc hy;unfold placesOf at this⊢;simp only[MR,h1,oy,this,h2];rfl
    . cases h
  . cases h
theorem LF{ν:Nu}{H:Bool->Hp}{pl:List (Nat×Nat)}(hS:di ν H (aQ L.bQ) e):∀{parts:List (Nat×Operand)} {l l':List Lf} {cs:List Value},BU L pl parts l=some l'->cR ν H l cs->
 ∃(is:List Nat) (vs:List Value) (css:List (List Value)) (cs':List Value),(parts.map fun p=>(p.1,ev e p.2))=is.zip vs/\is.length=vs.length/\AA vs css/\td pl cs (is.zip css)=some cs'/\cR ν H l' cs'
 |[],l,_,cs,h,hl=>by cases h;exact⟨[],[],[],cs,rfl,rfl,trivial,rfl,hl⟩
 |(i,x)::r,l,_,cs,h,hl=>by
  simp only[BU]at h;split at h
  . rename_i s hx;split at h
    . rename_i off size hp;split at h
      . rename_i hb;simp only[fG]at hb;obtain⟨us,u1,u2⟩:=rY (cW hS hx);obtain⟨is,vs,css,cs',g1,g2,g3,g4,g5⟩:=LF hS h (hl.put u2);refine⟨i::is,ev e x::vs,us::css,cs',by simp[g1],by simp[g2],⟨u1,g3⟩,?_,g5⟩;simp only[MW,td,hp];have e1:Nat.beq us.length size=true:=by rw[u2.length];exact hb.1
        have e2:Nat.blt cs.length (off+us.length)=false:=by
         have h2:=ku hb.2;rw[<-u2.length,<-hl.length]at h2;cases hb2:Nat.blt cs.length (off+us.length)with
         |false=>rfl
         |true=>have h3:cs.length+1<=off+us.length:=ku hb2;omega
        rw[e1,e2];exact g4
      . cases h
    . cases h
  . cases h
theorem au_ok{op:Op}(h:au tb L op=some (ef,sv)):LT P L op ty ef sv:=by
 cases op with
 |move x=>
  simp only[au]at h;split at h
  . rename_i s hx;cases h;exact LT.look fun ν H e w hv ht hO hS=>aF.move rfl ⟨rfl,cW hS hx⟩
  . cases h
 |assign x=>
  simp only[au]at h;split at h
  . rename_i s hx;cases h;exact LT.look fun ν H e w hv ht hO hS=>aF.assign rfl ⟨rfl,cW hS hx⟩
  . cases h
 |pick c a b=>
  simp only[au]at h;split at h
  . rename_i hc;split at h
    . rename_i s hx;cases h;exact LT.look fun ν H e w hv ht hO hS=>aF.UO (eJ hS hc).1 rfl rfl ⟨rfl,cW hS hx⟩
    . cases h
  . rename_i hc;split at h
    . rename_i s hx;cases h;exact LT.look fun ν H e w hv ht hO hS=>aF.Uj (eJ hS hc).1 rfl rfl ⟨rfl,cW hS hx⟩
    . cases h
  . cases h
 |binOp op t x y u=>
  simp only[au]at h;split at h
  . rename_i a hx;split at h
    . rename_i b hy;split at h
      . rename_i v hv;cases h;exact LT.look fun ν H e w _ ht hO hS=>Ro hv (eJ hS hx).1 (eJ hS hy).1 fun ho=>⟨rfl,rfl,ho⟩
      . cases h
    . cases h
  . cases h
 |unOp op t x=>
  simp only[au]at h;split at h
  . rename_i a hx;split at h
    . rename_i v hv;cases h;exact LT.look fun ν H e w _ ht hO hS=>P5 hv (eJ hS hx).1 fun ho=>⟨rfl,rfl,ho⟩
    . cases h
  . cases h
 |extract x i=>
  simp only[au]at h;split at h
  . rename_i l hx;split at h
    . rename_i s hg;cases h;refine LT.look fun ν H e w hv ht hO hS=>?_;obtain⟨vs,h1,h2⟩:=cW hS hx;obtain⟨y,g1,g2⟩:=h2.get hg;exact aF.extract h1 g1 ⟨rfl,g2⟩
    . cases h
  . cases h
 |nilCheck x=>
  simp only[au]at h;split at h
  . rename_i j off hx;cases h;refine LT.look fun ν H e w hv ht hO hS=>?_;obtain⟨b,c,h1,h2⟩:=cW hS hx;exact aF.nilCheck h2 ⟨rfl,b,c,h1,rfl⟩
  . rename_i κ c off hx;cases h;refine LT.look fun ν H e w hv ht hO hS=>?_;obtain⟨b,o,vs,h1,h2,h3⟩:=cW hS hx;exact aF.nilCheck h1 ⟨rfl,b,o,vs,rfl,h2,h3⟩
  . cases h
 |field t x i=>
  simp only[au]at h;split at h
  . rename_i T hT;split at h
    . rename_i fs hd;split at h
      . rename_i f hf;split at h
        . rename_i F hF;split at h
          . rename_i l hx;split at h
            . rename_i s hc;cases h;have hu:=gk hT;rw[hd]at hu;refine LT.look fun ν H e w hv ht hO hS=>?_;obtain⟨vs,h1,h2⟩:=cW hS hx;rcases tG hc h2 with⟨hg,v,k1,k2⟩|⟨hg,us,k0,k1,k2⟩
              . exact aF.Pl hu hf (gk hF) hg h1 k1 ⟨rfl,k2⟩
              . exact aF.T4 hu hf (gk hF) hg (fQ hF) h1 (by rw[<-k0];exact k1) ⟨rfl,k2⟩
            . cases h
          . cases h
        . cases h
      . cases h
    . cases h
  . cases h
 |fieldAddr s x i=>
  simp only[au]at h;split at h
  . rename_i T hT;split at h
    . rename_i fs hd;split at h
      . rename_i f hf;split at h
        . rename_i F hF;split at h
          . cases h
          . rename_i hz;have hz':=beq0 hz;have hu:=gk hT;rw[hd]at hu;split at h
            . rename_i j off hx;cases h;refine LT.look fun ν H e w hv ht hO hS=>?_;obtain⟨b,c,g1,g2⟩:=cW hS hx;exact aF.fieldAddr hu hf (fQ hF) hz' g2 rfl ⟨rfl,b,c,g1,rfl⟩
            . rename_i κ c off hx;cases h;refine LT.look fun ν H e w hv ht hO hS=>?_;obtain⟨b,o,vs,g1,g2,g3⟩:=cW hS hx;exact aF.fieldAddr hu hf (fQ hF) hz' g1 rfl ⟨rfl,b,o,vs,by rw[pM],g2,g3⟩
            . rename_i j r xs a ix off hx;cases h;refine LT.look fun ν H e w hv ht hO hS=>?_;obtain⟨b,c,n,g1,g2,g3,g4⟩:=cW hS hx;exact aF.fieldAddr hu hf (fQ hF) hz' g4 rfl ⟨rfl,b,c,n,g1,g2,g3,by rw[pM]⟩
            . rename_i j r κ xs a ix off hx;cases h;refine LT.look fun ν H e w hv ht hO hS=>?_;obtain⟨b,c,n,m,g1,g2,g3,g4⟩:=cW hS hx;rcases g4 with⟨g4,b',g5,g6⟩|⟨g4,b',o,vs,g5,g6,g7⟩
              . exact aF.fieldAddr hu hf (fQ hF) hz' g6 rfl ⟨rfl,b,c,n,m,g1,g2,g3,.inl ⟨g4,b',g5,by rw[pM]⟩⟩
              . exact aF.fieldAddr hu hf (fQ hF) hz' g5 rfl ⟨rfl,b,c,n,m,g1,g2,g3,.inr ⟨g4,b',o,vs,by rw[pM],g6,g7⟩⟩
            . cases h
        . cases h
      . cases h
    . cases h
  . cases h
 |load t x=>
  simp only[au]at h;split at h
  . rename_i T hT;split at h
    . rename_i j off hx;split at h
      . rename_i l ho;split at h
        . rename_i s hc;cases h;refine LT.look fun ν H e w hv ht hO hS=>?_;obtain⟨b,vs,g1,g2,g4⟩:=Jt hO (cW hS hx) ho;rcases tG hc g4 with⟨hg,v,k1,k2⟩|⟨hg,us,k0,k1,k2⟩
          . exact aF.L9 (gk hT) hg g1 g2 k1 ⟨rfl,k2⟩
          . exact aF.FL (gk hT) hg (fQ hT) g1 g2 k0 k1 ⟨rfl,k2⟩
        . cases h
      . cases h
    . rename_i κ c off hx;split at h
      . rename_i s hc;cases h;refine LT.look fun ν H e w hv ht hO hS=>?_;obtain⟨b,o,vs,g1,g2,g3⟩:=cW hS hx;rcases tG hc g3 with⟨hg,v,k1,k2⟩|⟨hg,us,k0,k1,k2⟩
        . refine aF.Kh (H:=H κ) (v:=v) (gk hT) hg g1 (hv κ) ?_ ⟨rfl,k2⟩;refine g2.part off ?_;have hlt:=(dU.1 k1).1;rw[eU hlt];have:=(dU.1 k1).2;simp[this]
        . exact aF.HR (H:=H κ) (gk hT) hg (fQ hT) g1 k0 (hv κ) (g2.part off k1) ⟨rfl,k2⟩
      . cases h
    . cases h
  . cases h
 |store t x y=>
  simp only[au]at h;split at h
  . rename_i T hT;split at h
    . rename_i j off hx;split at h
      . rename_i s hy;split at h
        . rename_i l ho;split at h
          . rename_i hb;cases h;rw[fG]at hb;have hb1:=dH hb.1;have hb2:=ku hb.2;refine LT.md ho fun ν H e w b c n k0 hv ht hO hS q1 q2 q3=>?_;obtain⟨vs,rfl,g4⟩:=q3;obtain⟨b',c',g1,g2⟩:=cW hS hx;rw[q1]at g1;cases g1;obtain⟨us,k1,k2⟩:=rY (cW hS hy);have hul:=k2.length;have hvl:=g4.length;refine aF.store (fQ hT) g2 rfl k1 (by omega) k2.fj (jq q2) 0 rfl rfl (by omega) fun w' h1 h2=>?_;exact⟨_,h1,fun H' hH=>⟨_,rfl,(g4.mono (eQ.refl ν) hH).put (k2.mono (eQ.refl ν) hH)⟩⟩
          . cases h
        . cases h
      . cases h
    . cases h
  . cases h
 |alloc t=>
  simp only[au]at h;split at h
  . rename_i T hT;split at h
    . rename_i ho;have e1:=congrArg Prod.fst (gY h);have e2:=congrArg Prod.snd (gY h);dsimp only at e1 e2;subst e1;subst e2;refine LT.nw fun ν H e w hv ht hO hS=>?_;exact aF.alloc (cs:=T.z.cells.toList) (fQ hT) (by simp) nu fun b w' h1 h2=>⟨some b,0,0,_,h1,fun ν' H' _ _=>⟨_,rfl,qc ho⟩,fun ν' H' _ _ hn=>⟨b,(0,0),hn,rfl⟩⟩
    . cases h
  . cases h
 |box t x=>
  simp only[au]at h;split at h
  . rename_i s hx;have e1:=congrArg Prod.fst (gY h);have e2:=congrArg Prod.snd (gY h);dsimp only at e1 e2;subst e1;subst e2;refine LT.nw fun ν H e w hv ht hO hS=>?_;obtain⟨vs,k1,k2⟩:=rY (cW hS hx);exact aF.box rfl k1 nu fun b w' h1 h2=>⟨some b,0,0,_,h1,fun ν' H' hν hH=>⟨_,rfl,k2.mono hν hH⟩,fun ν' H' _ _ hn=>⟨b,(0,0),hn,rfl⟩⟩
  . cases h
 |convert s t x=>
  simp only[au]at h;split at h
  . rename_i A hA;split at h
    . rename_i T hT;split at h
      . rename_i k' hd;split at h
        . rename_i k z hx;cases h;have hu:=gk hT;rw[hd]at hu;exact LT.look fun ν H e w hv ht hO hS=>aF.Th (gk hA) hu (eJ hS hx).1 rfl ⟨rfl,rfl,rfl⟩
        . cases h
      . cases h
    . cases h
  . cases h
 |call c=>
  obtain⟨callee,args,ats⟩:=c;simp only[au]at h;split at h
  . rename_i hc;split at h
    . rename_i x hx;split at h
      . rename_i t ht;obtain rfl:args=#[x]:=by rw[<-tq (xs:=args)];exact congrArg _ hx
        obtain rfl:ats=#[t]:=by rw[<-tq (xs:=ats)];exact congrArg _ ht
        split at h
        . rename_i T hT;split at h
          . rename_i el hd;have hu:=gk hT;rw[hd]at hu;split at h
            . rename_i α r κ xs ho;cases h;exact LT.look fun ν H e w hv ht hO hS=>aF.Fe hu rfl (cW hS ho) ⟨rfl,rfl,rfl⟩
            . rename_i α i r κ xs ho;cases h;refine LT.look fun ν H e w hv ht hO hS=>?_;obtain⟨b,c,n,h1,h2⟩:=cW hS ho;rcases h2 with⟨e1,e2,e3⟩|⟨e1,e2,_⟩
              . cases b with
                |none=>
                 have hx:=e2 rfl;subst hx;exact aF.Kn hu e3 ⟨rfl,rfl,rfl⟩
                |some b=>exact aF.G6 hu e3 (by rw[e1]) ⟨rfl,rfl,rfl⟩
              . exact aF.Fe hu rfl e2 ⟨rfl,rfl,rfl⟩
            . rename_i α r κ xs ho;cases h;exact LT.look fun ν H e w hv ht hO hS=>aF.Fe hu rfl (And.left (cW hS ho)) ⟨rfl,rfl,rfl⟩
            . rename_i i ho;split at h
              . rename_i α r κ xs hi;cases h;refine LT.look fun ν H e w hv ht hO hS=>?_;obtain⟨b,c,n,h1,h2⟩:=cW hS ho;obtain⟨b',c',n',k,g2,g1,g3,g0,cs,sp,g4,g5,g6⟩:=hO i _ hi;rw[h1]at g2;cases g2;subst g4;exact aF.NL (pre:=[]) (r:=r) (xs:=xs) hu h2 g1 g5 g0 g3 ⟨rfl,rfl,rfl⟩
              . cases h
            . rename_i ho;cases h;exact LT.look fun ν H e w hv ht hO hS=>aF.Kn hu (cW hS ho).1 ⟨rfl,rfl,rfl⟩
            . rename_i sz lo hi ho;cases h;refine LT.look fun ν H e w hv ht hO hS=>?_;obtain⟨b,c,m,k,cp,_,e1,e2,e3,e4⟩:=cW hS ho;exact aF.G6 hu e4 (by omega) ⟨rfl,rfl,rfl⟩
            . cases h
          . rename_i hd;have hu:=gk hT;rw[hd]at hu;split at h
            . rename_i l ho;cases h;exact LT.look fun ν H e w hv ht hO hS=>aF.Rj (s:=l) hu (eJ hS ho).1 ⟨rfl,rfl,rfl⟩
            . cases h
          . rename_i kt et hd;have hu:=gk hT;rw[hd]at hu;split at h
            . rename_i i ho;split at h
              . rename_i K V dk kf vf m hi;cases h;refine LT.look fun ν H e w hv ht hO hS=>?_;obtain⟨b,c,h1,h2⟩:=cW hS ho;obtain⟨b',c',n',k,g2,g1,g3⟩:=hO i _ hi;rw[h1]at g2;cases g2;have g3:k=kg kf vf m:=g3;subst g3;exact aF.O6 (kf:=kf) (vf:=vf) hu h2 g1 ⟨rfl,rfl,rfl⟩
              . cases h
            . cases h
          . cases h
        . cases h
      . cases h
    . cases h
  . rename_i hc;split at h
    . rename_i x y hx;obtain rfl:args=#[x,y]:=by rw[<-tq (xs:=args)];exact congrArg _ hx
      split at h
      . rename_i k a ho;split at h
        . rename_i k' b hy;cases h;exact LT.look fun ν H e w hv ht hO hS=>aF.min (eJ hS ho).1 (eJ hS hy).1 ⟨rfl,rfl,rfl⟩
        . cases h
      . cases h
    . cases h
  . rename_i hc;split at h
    . rename_i x y hx;obtain rfl:args=#[x,y]:=by rw[<-tq (xs:=args)];exact congrArg _ hx
      split at h
      . rename_i k a ho;split at h
        . rename_i k' b hy;cases h;exact LT.look fun ν H e w hv ht hO hS=>aF.max (eJ hS ho).1 (eJ hS hy).1 ⟨rfl,rfl,rfl⟩
        . cases h
      . cases h
    . cases h
  . cases h
 |indexAddr t x y=>
  simp only[au]at h;split at h
  . rename_i T hT;split at h
    . rename_i n el hd;split at h
      . rename_i E hE;split at h
        . rename_i k i hy;split at h
          . rename_i hi;have hu:=gk hT;rw[hd]at hu;have hlt:i<n:=by simpa using hi
            split at h
            . rename_i j off hx;cases h;refine LT.look fun ν H e w hv ht hO hS=>?_;obtain⟨b,c,h1,h2⟩:=cW hS hx;exact aF.E0 hu (fQ hE) h2 (eJ hS hy).1 hlt rfl ⟨rfl,b,c,h1,rfl⟩
            . rename_i κ c off hx;cases h;refine LT.look fun ν H e w hv ht hO hS=>?_;obtain⟨b,o,vs,h1,h2,h3⟩:=cW hS hx;exact aF.E0 hu (fQ hE) h1 (eJ hS hy).1 hlt rfl ⟨rfl,b,o,vs,by rw[pM],h2,h3⟩
            . rename_i j r xs a ix off hx;cases h;refine LT.look fun ν H e w hv ht hO hS=>?_;obtain⟨b,c,n,g1,g2,g3,g4⟩:=cW hS hx;exact aF.E0 hu (fQ hE) g4 (eJ hS hy).1 hlt rfl ⟨rfl,b,c,n,g1,g2,g3,by rw[pM]⟩
            . cases h
          . cases h
        . cases h
      . cases h
    . cases h
  . cases h
 |build t parts=>
  simp only[au]at h;split at h
  . rename_i T hT;split at h
    . rename_i fs hd;split at h
      . rename_i pl hp;split at h
        . rename_i ho;split at h
          . rename_i l hl;cases h;have hu:=gk hT;rw[hd]at hu;refine LT.look fun ν H e w hv ht hO hS=>?_;obtain⟨is,vs,css,cs',g1,g2,g3,g4,g5⟩:=LF hS hl (qc ho);have hpl:zd P t=some pl:=by unfold zd;rw[hu];exact Kc hp
            have:=aF.build (ty:=ty) (ρ:=ev e) (w:=w) (R:=fun v w'=>w'=w/\(Sv.s (.agg l)).R ν H v) hpl (fQ hT) (by simp) g1 g2 g3 g4 ⟨rfl,cs',rfl,g5⟩;simpa using this
          . cases h
        . cases h
      . cases h
    . rename_i n el hd;split at h
      . rename_i E hE;split at h
        . rename_i hsz;have hsz:=dH hsz;have hu:=gk hT;rw[hd]at hu;split at h
          . rename_i hp;split at h
            . rename_i ho;cases h;obtain rfl:parts=#[]:=by rw[<-tq (xs:=parts)];exact congrArg _ hp
              exact LT.look fun ν H e w hv ht hO hS=>aF.N6 (zc:=T.z.cells.toList) hu (fQ hT) (by simp) (fQ hE) ⟨rfl,_,rfl,qc ho⟩
            . cases h
          . rename_i p ps hp;split at h
            . rename_i hn;split at h
              . rename_i l hl;cases h;rw[fG]at hn;have hn2:=dH hn.2;obtain rfl:parts=(p::ps).toArray:=by rw[<-tq (xs:=parts)];exact congrArg _ hp
                refine LT.look fun ν H e w hv ht hO hS=>?_;obtain⟨vs,css,g1,g2,g3,g4⟩:=IV hS 0 hl hn.1;refine aF.UN (zc:=T.z.cells.toList) hu (fQ hT) (by simp) (fQ hE) ?_ g1 g2 ⟨rfl,_,rfl,g3⟩;rw[g4,cz,hn2];simpa using hsz
              . cases h
            . cases h
        . cases h
      . cases h
    . cases h
  . cases h
 |_=>simp only[au]at h;cases h
end
open Go Go.RowKit Go.X
variable [eT]
section
variable {P:Program} {l:List Oper} {n:Nat}
theorem anyJ{J:(Nat->Bool)->Env->World->Prop}{Qp:Exit->Act->World->Prop}(hok:l5 n l=true)(hb:sQ l=true)
 (step:∀(D:Nat->Bool) (i:Nat) (o:Oper) (e:Env) (w:World),l[i]?=some o->D i=false->(∀d∈eW o,D d=true)->(∀j oj,l[j]?=some oj->D j=true->∀d∈eW oj,D d=true)->J D e w->kM P l o e w fun v w'=>J (fun j=>D j||Nat.beq j i) (jF e o.dst v) w')
 (hQ:∀(D:Nat->Bool) (a:Act) (w:World),(∀i,i<l.length->D i=true)->a.tmps.size=n->a.defers=[]->J D (cL a) w->Qp .normal a w):
 ∀(fuel:Nat) (listed:Array Bool) (a:Act) (w:World),listed.size=l.length->a.tmps.size=n->a.defers=[]->(∀j oj,l[j]?=some oj->eP listed j->∀d∈eW oj,eP listed d)->J (fun j=>listed.getD j false) (cL a) w->ij l listed<=fuel->wpAny P .any l.toArray Qp fuel listed a w:=by
 have fin:∀(listed:Array Bool) (a:Act) (w:World),listed.size=l.length->a.tmps.size=n->a.defers=[]->J (fun j=>listed.getD j false) (cL a) w->Region.ready .any l.toArray listed=[]->Qp .normal a w:=by
  intro listed a w hs h1 h2 hJ hr;have hal:=TK hs hb hr;exact hQ _ a w (fun i hi=>hal i hi) h1 h2 hJ
 intro fuel
 induction fuel with
 |zero=>
  intro listed a w hs h1 h2 hcl hJ hc;have hr:Region.ready .any l.toArray listed=[]:=by
   apply List.eq_nil_iff_forall_not_mem.2;intro i hi;obtain⟨g1,o,g2,_⟩:=mem_ready.1 hi;have hil:i<l.length:=by
    rw[vO]at g2;exact(dU.1 g2).1
   have:=UG (by omega:ij l listed=0) hil;rw[g1]at this;cases this
  exact⟨hr,fin listed a w hs h1 h2 hJ hr⟩
 |succ fuel ih=>
  intro listed a w hs h1 h2 hcl hJ hc;refine⟨fun hr=>fin listed a w hs h1 h2 hJ hr,fun i hi=>?_⟩;have hil:i<l.length:=by
   obtain⟨_,o,g2,_⟩:=mem_ready.1 hi;rw[vO]at g2;exact(dU.1 g2).1
  have ho:l[i]?=some l[i]:=bV hil;obtain⟨hun,hdeps⟩:=PA hi ho;have hnl:¬eP listed i:=(unl hs hil).2 hun;have hcn:=Q7 hs hil hun;have hdd:∀o,o∈l->∀d,o.dst=some d->d<a.tmps.size:=by rw[h1];exact BI hok
  have hst:=step (fun j=>listed.getD j false) i l[i] (cL a) w ho (by cases hb2:listed.getD i false with
   |false=>rfl
   |true=>exact absurd hb2 hnl) hdeps hcl hJ
  refine Sk hdd ho hst fun v w' hv=>?_;refine ih _ _ w' (by simp[hs]) (by rw[pK];exact h1) (by rw[p8];exact h2) (Pe hs hil hcl hdeps) ?_ (by omega);have e1:(fun j=>(listed.setIfInBounds i true).getD j false)=fun j=>listed.getD j false||Nat.beq j i:=by
   funext j;have hh:=J2 (l:=l) hs (i:=i) (j:=j) hil;unfold eP at hh;cases hb3:listed.getD j false with
   |true=>rw[hh.2 (.inl hb3)];rfl
   |false=>
    cases hb4:Nat.beq j i with
    |true=>rw[hh.2 (.inr (dH hb4))];rfl
    |false=>
     cases hb5:(listed.setIfInBounds i true).getD j false with
     |false=>rfl
     |true=>
      rcases hh.1 hb5 with h|h
      . rw[hb3]at h;cases h
      . subst h;rw[qR]at hb4;cases hb4
  rw[e1,uI a h1 (fun k hk=>by rw[<-h1];exact hdd _ (ni ho) k hk)];exact hv
theorem cv.drawJ{id:Nat}{k:List It}{Qr:Env->World->Prop}{e:Env}{w:World}{J:(Nat->Bool)->Env->World->Prop}(hm:P.follows .mixedOrders=true)(hok:l5 n l=true)(hb:sQ l=true)
 (h0:∀w1,w1.os=w.os->w1.tape=w.tape->w1.output=w.output->w1.heap=w.heap->J (fun _=>false) e w1)
 (step:∀(D:Nat->Bool) (i:Nat) (o:Oper) (e:Env) (w:World),l[i]?=some o->D i=false->(∀d∈eW o,D d=true)->(∀j oj,l[j]?=some oj->D j=true->∀d∈eW oj,D d=true)->J D e w->kM P l o e w fun v w'=>J (fun j=>D j||Nat.beq j i) (jF e o.dst v) w')
 (hQ:∀(D:Nat->Bool) (e:Env) (w:World),(∀i,i<l.length->D i=true)->J D e w->cv P n k Qr e w):cv P n (.code (.region id l.toArray true)::k) Qr e w:=by
 intro a h1 h2 h3;subst h3;refine wp_region_any hm ?_;have hno:∀j,¬eP (Array.replicate l.toArray.size false) j:=fun j hj=>by unfold eP at hj;rw[getD_replicate_false]at hj;cases hj
 refine anyJ (J:=J) hok hb step (fun D a' w' hD g1 g2 g3=>⟨g1,g2,hQ D _ _ hD g3⟩) l.toArray.size (Array.replicate l.toArray.size false) a _ (by simp) h1 h2 (fun j oj _ hj=>absurd hj (hno j)) ?_ ?_
 . have e1:(fun j=>(Array.replicate l.toArray.size false).getD j false)=fun _=>false:=by
    funext j;rw[getD_replicate_false]
   rw[e1];exact h0 _ rfl rfl rfl rfl
 . unfold ij;refine bO (tz _ _) (by simp)
end
open Go Go.RowKit Go.X
variable [eT]
structure Ev:Type 1 where
 rd:List Nat
 ro:List Nat
 nx:Nat
 dst:Option Nat
 sv:Option Sv
 ef:Ef
def mQ(d:Option Nat)(sv:Option Sv)(sl:List (Nat×Option Sv)):List (Nat×Option Sv):=match d with
 |some d=>(d,sv)::sl
 |none=>sl
abbrev Ev.su(ev:Ev):List (Nat×Option Sv):=mQ ev.dst ev.sv ev.ef.sl
abbrev Ev.ks(ev:Ev):List Nat:=ev.ef.up.map (·.1)
def fO(D:Nat->Bool):Nat->List Ev->OF->OF
 |_,[],f=>f
 |j,ev::r,f=>fO D (j+1) r (bif D j then bG ev.ef.up f else f)
def fS(D:Nat->Bool):Nat->List Ev->SF->SF
 |_,[],f=>f
 |j,ev::r,f=>fS D (j+1) r (bif D j then bG ev.su f else f)
abbrev Tr:Nat->Bool:=fun _=>true
section
variable {D D':Nat->Bool}
theorem Fz:∀{l:List Ev} {j:Nat} {f g:OF} {x:Nat},f x=g x->fO D j l f x=fO D j l g x
 |[],_,_,_,_,h=>h
 |ev::r,j,f,g,x,h=>by
  show fO D (j+1) r _ x=fO D (j+1) r _ x;apply Fz;cases D j with
  |false=>exact h
  |true=>
   show bG ev.ef.up f x=bG ev.ef.up g x;cases hm:bZ x ev.ks with
   |true=>exact pY hm
   |false=>rw[jM hm,jM hm];exact h
theorem E4:∀{l1 l2:List Ev} {j:Nat} {f:OF},fO D j (l1++l2) f=fO D (j+l1.length) l2 (fO D j l1 f)
 |[],_,_,_=>rfl
 |ev::r,l2,j,f=>by
  show fO D (j+1) (r++l2) _=fO D (j+(r.length+1)) l2 (fO D (j+1) r _);rw[E4,show j+1+r.length=j+(r.length+1) by omega]
theorem sW:∀{l:List Ev} {j:Nat} {f:OF} {x:Nat},(∀i ev,l[i]?=some ev->D (j+i)=D' (j+i)\/bZ x ev.ks=false)->fO D j l f x=fO D' j l f x
 |[],_,_,_,_=>rfl
 |ev::r,j,f,x,h=>by
  show fO D (j+1) r _ x=fO D' (j+1) r _ x;rw[sW (l:=r) (j:=j+1) (fun i ev' hi=>by
   have:=h (i+1) ev' (by simpa using hi);rwa[show j+(i+1)=j+1+i by omega]at this)]
  apply Fz;rcases h 0 ev rfl with h|h
  . rw[show j+0=j from rfl]at h;rw[h]
  . have h1:∀b:Bool,(bif b then bG ev.ef.up f else f) x=f x:=fun b=>by cases b with
     |true=>exact jM h
     |false=>rfl
    rw[h1,h1]
theorem ES:∀{l:List Ev} {j:Nat} {f g:SF} {x:Nat},f x=g x->fS D j l f x=fS D j l g x
 |[],_,_,_,_,h=>h
 |ev::r,j,f,g,x,h=>by
  show fS D (j+1) r _ x=fS D (j+1) r _ x;apply ES;cases D j with
  |false=>exact h
  |true=>
   show bG ev.su f x=bG ev.su g x;cases hm:bZ x (ev.su.map (·.1))with
   |true=>exact pY hm
   |false=>rw[jM hm,jM hm];exact h
theorem CH:∀{l1 l2:List Ev} {j:Nat} {f:SF},fS D j (l1++l2) f=fS D (j+l1.length) l2 (fS D j l1 f)
 |[],_,_,_=>rfl
 |ev::r,l2,j,f=>by
  show fS D (j+1) (r++l2) _=fS D (j+(r.length+1)) l2 (fS D (j+1) r _);rw[CH,show j+1+r.length=j+(r.length+1) by omega]
theorem sa:∀{l:List Ev} {j:Nat} {f:SF} {x:Nat},(∀i ev,l[i]?=some ev->D (j+i)=D' (j+i)\/bZ x (ev.su.map (·.1))=false)->fS D j l f x=fS D' j l f x
 |[],_,_,_,_=>rfl
 |ev::r,j,f,x,h=>by
  show fS D (j+1) r _ x=fS D' (j+1) r _ x;rw[sa (l:=r) (j:=j+1) (fun i ev' hi=>by
   have:=h (i+1) ev' (by simpa using hi);rwa[show j+(i+1)=j+1+i by omega]at this)]
  apply ES;rcases h 0 ev rfl with h|h
  . rw[show j+0=j from rfl]at h;rw[h]
  . have h1:∀b:Bool,(bif b then bG ev.su f else f) x=f x:=fun b=>by cases b with
     |true=>exact jM h
     |false=>rfl
    rw[h1,h1]
end
structure En where
 rd:Nat
 ro:Nat
 nx:Nat
 ne:Nat
 dst:Nat
 ks:Nat
def iz:List Nat->Nat
 |[]=>0
 |x::r=>(1<<<x)|||iz r
theorem Aq:∀{l:List Nat} {x:Nat},Nat.testBit (iz l) x=bZ x l
 |[],x=>by simp[iz,bZ]
 |y::r,x=>by
  show Nat.testBit ((1<<<y)|||iz r) x=(Nat.beq x y||bZ x r);rw[Gq,Aq,Nat.testBit_shiftLeft];congr 1;cases hb:Nat.beq x y with
  |true=>
   have:=dH hb;subst this;simp
  |false=>
   have hne:x≠y:=by rintro rfl;rw[qR]at hb;cases hb
   cases h1:decide (x≥y)with
   |false=>rfl
   |true=>
    have:=of_decide_eq_true h1;rw[Bool.true_and];cases h2:Nat.testBit 1 (x-y)with
    |false=>rfl
    |true=>rw[Va]at h2;omega
def mF:List Nat->Nat->Nat
 |[],a=>a
 |x::r,a=>mF r (a|||(1<<<(0+x)))
theorem AJ:∀{l:List Nat} {a x:Nat},Nat.testBit (mF l a) x=(Nat.testBit a x||bZ x l)
 |[],a,x=>by simp[mF,bZ]
 |y::r,a,x=>by
  show Nat.testBit (mF r (a|||(1<<<(0+y)))) x=(Nat.testBit a x||(Nat.beq x y||bZ x r));have h1:Nat.testBit (1<<<(0+y)) x=Nat.beq x y:=by
   have:=Aq (l:=[y]) (x:=x);simp only[iz,Nat.or_zero,bZ,Bool.or_false]at this;rw[eK];exact this
  rw[AJ,Gq,h1,Bool.or_assoc]
structure Er where
 rd:Nat
 ro:List Nat
 nx:Nat
 ne:Nat
 dst:Nat
 dl:List Nat
 ks:List Nat
def Er.en(e:Er):En:=⟨e.rd,mF e.ro 0,0+e.nx,0+e.ne,mF e.dl e.dst,mF e.ks 0⟩
def Ev.er(ev:Ev):Er:=⟨iz ev.rd,ev.ro,ev.nx,ev.nx+ev.ef.n,iz ev.dst.toList,ev.ef.sl.map (·.1),ev.ks⟩
abbrev Ev.en(ev:Ev):En:=ev.er.en
theorem HX{ev:Ev}{x:Nat}:Nat.testBit ev.en.rd x=bZ x ev.rd:=Aq
theorem KH{ev:Ev}{x:Nat}:Nat.testBit ev.en.ro x=bZ x ev.ro:=by show Nat.testBit (mF ev.ro 0) x=_;rw[AJ];simp
theorem AH{ev:Ev}{x:Nat}:Nat.testBit ev.en.ks x=bZ x ev.ks:=by show Nat.testBit (mF ev.ks 0) x=_;rw[AJ];simp
theorem zW{ev:Ev}{x:Nat}:Nat.testBit ev.en.dst x=bZ x (ev.su.map (·.1)):=by
 show Nat.testBit (mF (ev.ef.sl.map (·.1)) (iz ev.dst.toList)) x=_;rw[AJ,Aq];unfold Ev.su mQ;cases ev.dst<;>simp[bZ]
theorem tW{a b x:Nat}(h:Nat.beq (a&&&b) 0=true)(hx:Nat.testBit a x=true):Nat.testBit b x=false:=by
 have h:=dH h;have h1:Nat.testBit (a&&&b) x=false:=by rw[h];simp
 rw[Nat.testBit_and,hx,Bool.true_and]at h1;exact h1
def nI(a b:En):Bool:=Nat.beq (b.ro&&&a.ks) 0&&Nat.beq (b.ks&&&a.ks) 0&&Nat.beq (a.ro&&&b.ks) 0&&Nat.beq (b.rd&&&a.dst) 0&&Nat.beq (a.rd&&&b.dst) 0&&Nat.beq (a.dst&&&b.dst) 0
theorem vE{a b:Ev}(h:nI a.en b.en=true):(∀x∈b.ro,bZ x a.ks=false)/\(∀x∈b.ks,bZ x a.ks=false)/\(∀x∈a.ro,bZ x b.ks=false)/\(∀x∈b.rd,bZ x (a.su.map (·.1))=false)/\(∀x∈a.rd,bZ x (b.su.map (·.1))=false)/\∀x∈a.su.map (·.1),bZ x (b.su.map (·.1))=false:=by
 simp only[nI,fG]at h;obtain⟨⟨⟨⟨⟨h1,h2⟩,h3⟩,h4⟩,h5⟩,h6⟩:=h;refine⟨fun x hx=>?_,fun x hx=>?_,fun x hx=>?_,fun x hx=>?_,fun x hx=>?_,fun x hx=>?_⟩
 . rw[<-AH];exact tW h1 (by rw[KH];exact iV.2 hx)
 . rw[<-AH];exact tW h2 (by rw[AH];exact iV.2 hx)
 . rw[<-AH];exact tW h3 (by rw[KH];exact iV.2 hx)
 . rw[<-zW];exact tW h4 (by rw[HX];exact iV.2 hx)
 . rw[<-zW];exact tW h5 (by rw[HX];exact iV.2 hx)
 . rw[<-zW];exact tW h6 (by rw[zW];exact iV.2 hx)
def tN(acc:List Nat)(ds:List Nat):Nat:=ds.foldl (fun m d=>m|||(1<<<d)|||acc.getD d 0) 0
def vq:List Nat->List (List Nat)->List Nat
 |acc,[]=>acc
 |acc,ds::r=>vq (acc++[tN acc ds]) r
def DX(m i:Nat):Bool:=Nat.beq (Nat.land (Nat.shiftRight m i) 1) 1
theorem Tv{m i:Nat}:DX m i=Nat.testBit m i:=by
 unfold DX Nat.testBit;show Nat.beq ((m>>>i)&&&1) 1=(1&&&(m>>>i)!=0);rw[Nat.and_comm 1,Nat.and_one_is_mod];rcases Nat.mod_two_eq_zero_or_one (m>>>i)with h|h<;>rw[h]<;>rfl
def oI:Nat->List En->List Nat->Bool
 |_,[],_=>true
 |i,a::r,ms=>match ms with
  |[]=>false
  |_::ms=>chkR i a r ms&&oI (i+1) r ms
where chkR (i:Nat) (a:En):List En->List Nat->Bool
 |[],_=>true
 |b::r,ms=>match ms with
  |[]=>false
  |m::ms=>Nat.ble a.ne b.nx&&(DX m i||nI a b)&&chkR i a r ms
def pU(m nE:Nat)(all:List Oper)(es:List En):Bool:=(Nat.beq es.length all.length&&Nat.ble m nE)&&sQ all&&(all.all fun o=>!K6 o.op)&&(es.all fun e=>Nat.ble m e.nx&&Nat.ble e.ne nE)&&oI 0 es (vq [] (all.map eW))
def fB:Nat->(Nat->Bool)->Bool
 |0,K=>K 0
 |n+1,K=>K (n+1)
theorem xb{n:Nat}{K:Nat->Bool}:fB n K=K n:=by cases n<;>rfl
def Dc:List Nat->Nat->(List Nat->Bool)->Bool
 |[],m,K=>K [m]
 |x::r,m,K=>Dc r m fun r'=>K (x::r')
theorem Lm:∀{l:List Nat} {m:Nat} {K:List Nat->Bool},Dc l m K=K (l++[m])
 |[],_,_=>rfl
 |_::r,_,_=>Lm (l:=r)
def D8:List Nat->List (List Nat)->(List Nat->Bool)->Bool
 |acc,[],K=>K acc
 |acc,ds::r,K=>fB (tN acc ds) fun m=>Dc acc m fun acc'=>D8 acc' r K
theorem Ht:∀{r:List (List Nat)} {acc:List Nat} {K:List Nat->Bool},D8 acc r K=K (vq acc r)
 |[],_,_=>rfl
 |ds::r,acc,K=>by show fB _ _=_;rw[xb,Lm,Ht (r:=r)];rfl
def F4:Nat->List En->List Nat->Bool
 |_,[],_=>true
 |i,a::r,ms=>match ms with
  |[]=>false
  |_::ms=>oI.chkR i a r ms&&fB (i+1) fun i=>F4 i r ms
theorem LS:∀{es:List En} {i:Nat} {ms:List Nat},F4 i es ms=oI i es ms
 |[],_,_=>rfl
 |a::r,i,[]=>rfl
 |a::r,i,m::ms=>by show(_&&fB _ _)=_;rw[xb,LS (es:=r)];rfl
def cB:Nat->Nat->(Nat->Bool)->Bool
 |0,a,K=>K a
 |n+1,a,K=>cB n (a+1) K
theorem zS:∀{n a:Nat} {K:Nat->Bool},cB n a K=K (a+n)
 |0,_,_=>rfl
 |n+1,a,K=>by show cB n (a+1) K=_;rw[zS,show a+1+n=a+(n+1) by omega]
def cLB:List Nat->Nat->(Nat->Bool)->Bool
 |[],a,K=>K a
 |x::r,a,K=>cB x 0 fun x=>fB (a|||(1<<<x)) fun a=>cLB r a K
theorem JZ:∀{l:List Nat} {a:Nat} {K:Nat->Bool},cLB l a K=K (mF l a)
 |[],_,_=>rfl
 |x::r,a,K=>by show cB x 0 _=_;rw[zS,xb,JZ];rfl
def Ek:List Er->(List En->Bool)->Bool
 |[],K=>K []
 |e::r,K=>fB e.rd fun rd=>cLB e.ro 0 fun ro=>cB e.nx 0 fun nx=>fB nx fun nx=>cB e.ne 0 fun ne=>fB ne fun ne=>fB e.dst fun d=>cLB e.dl d fun dst=>cLB e.ks 0 fun ks=>Ek r fun es=>K (⟨rd,ro,nx,ne,dst,ks⟩::es)
theorem Kr:∀{l:List Er} {K:List En->Bool},Ek l K=K (l.map Er.en)
 |[],_=>rfl
 |e::r,K=>by
  show fB e.rd _=_;simp only[xb,zS,JZ];rw[Kr (l:=r)];rfl
def EL(m nE:Nat)(all:List Oper)(es:List Er):Bool:=cB m 0 fun m=>fB m fun m=>cB nE 0 fun nE=>fB nE fun nE=>Ek es fun es=>(Nat.beq es.length all.length&&Nat.ble m nE)&&sQ all&&(all.all fun o=>!K6 o.op)&&(es.all fun e=>Nat.ble m e.nx&&Nat.ble e.ne nE)&&D8 [] (all.map eW) fun ms=>F4 0 es ms
theorem To{m nE:Nat}{all:List Oper}{es:List Er}:EL m nE all es=pU m nE all (es.map Er.en):=by
 unfold EL pU;simp only[zS,xb,Kr,Ht,LS,eK]
theorem HP{acc:List Nat}{i:Nat}:∀{ds:List Nat} {m:Nat},Nat.testBit (ds.foldl (fun m d=>m|||(1<<<d)|||acc.getD d 0) m) i=true->Nat.testBit m i=true\/∃d∈ds,d=i\/Nat.testBit (acc.getD d 0) i=true
 |[],m,h=>.inl h
 |d::r,m,h=>by
  rcases HP (ds:=r) h with h|⟨d',h1,h2⟩
  . rw[Gq,Gq,vR,vR]at h;rcases h with(h|h)|h
    . exact .inl h
    . refine .inr ⟨d,cK,.inl ?_⟩;rw[Nat.testBit_shiftLeft,fG,Va]at h;have h1:=of_decide_eq_true h.1;omega
    . exact .inr ⟨d,cK,.inr h⟩
  . exact .inr ⟨d',cG _ h1,h2⟩
theorem LV{dl:List (List Nat)}{cl:Nat->Prop}:∀{r:List (List Nat)} {acc done:List (List Nat)} {am:List Nat},dl=done++r->am.length=done.length->
 (∀(j:Nat),j<done.length->∀(i:Nat),Nat.testBit (am.getD j 0) i=true->i∈dl.getD j []\/∃d∈dl.getD j [],Nat.testBit (am.getD d 0) i=true/\d<done.length)->
 (∀(j:Nat) (ds:List Nat),dl[j]?=some ds->∀d∈ds,d<j)->
 ∀(j:Nat),j<dl.length->∀(i:Nat),Nat.testBit ((vq am r).getD j 0) i=true->i∈dl.getD j []\/∃d∈dl.getD j [],Nat.testBit ((vq am r).getD d 0) i=true
 |[],acc,done,am,hd,hl,h,hb=>fun j hj i hi=>by
  rw[lG]at hd;subst hd;rcases h j hj i hi with h|⟨d,h1,h2,_⟩
  . exact .inl h
  . exact .inr ⟨d,h1,h2⟩
 |ds::r,acc,done,am,hd,hl,h,hb=>by
  intro j hj i hi;have key:=LV (dl:=dl) (cl:=cl) (r:=r) (acc:=acc) (done:=done++[ds]) (am:=am++[tN am ds]) (by rw[hd];simp) (by simp[hl]) ?_ hb j hj i hi
  . exact key
  . intro j hj i hi;have hds:dl[done.length]?=some ds:=by rw[hd];simp
    rcases cw j done.length with h1|h1
    . have e1:(am++[tN am ds]).getD j 0=am.getD j 0:=by simp[cy,jW (show j<am.length by omega)]
      rw[e1]at hi;rcases h j h1 i hi with h2|⟨d,h2,h3,h4⟩
      . exact .inl h2
      . exact .inr ⟨d,h2,by simpa[cy,jW (show d<am.length by omega)]using h3,by simp;omega⟩
    . have e0:j=done.length:=by simp at hj;omega
      subst e0;have e1:(am++[tN am ds]).getD done.length 0=tN am ds:=by rw[<-hl];simp[cy]
      rw[e1]at hi;have e2:dl.getD done.length []=ds:=by rw[cy,hds];rfl
      rw[e2];rcases HP hi with h2|⟨d,h2,h3⟩
      . simp at h2
      . rcases h3 with h3|h3
        . subst h3;exact .inl h2
        . have hlt:=hb _ _ hds d h2;exact .inr ⟨d,h2,by simpa[cy,jW (show d<am.length by omega)]using h3,by simp;omega⟩
theorem Iu{all:List Oper}{D:Nat->Bool}(hb:sQ all=true)(hcl:∀j oj,all[j]?=some oj->D j=true->∀d∈eW oj,D d=true):
 ∀(j:Nat) (oj:Oper) (i:Nat),all[j]?=some oj->(∀d∈eW oj,D d=true)->Nat.testBit ((vq [] (all.map eW)).getD j 0) i=true->D i=true:=by
 have hb':∀(j:Nat) (ds:List Nat),(all.map eW)[j]?=some ds->∀d∈ds,d<j:=by
  intro j ds h d hd;rw[gM]at h;cases ho:all[j]?with
  |none=>rw[ho]at h;cases h
  |some o=>rw[ho]at h;cases h;exact zR hb ho hd
 have key:=LV (dl:=all.map eW) (cl:=fun _=>True) (r:=all.map eW) (acc:=[]) (done:=[]) (am:=[]) rfl rfl (fun(j:Nat) (hj:j<0)=>absurd hj (by simp)) hb';intro j
 induction j using Nat.strongRecOn with
 |_ j ih=>
  intro oj i ho hd hi;have hj:j<(all.map eW).length:=by rw[cP];exact(dU.1 ho).1
  have e1:(all.map eW).getD j []=eW oj:=by rw[cy,gM,ho];rfl
  rcases key j hj i hi with h|⟨d,h1,h2⟩
  . rw[e1]at h;exact hd i h
  . rw[e1]at h1;have hlt:=zR hb ho h1;have hdl:d<all.length:=by rw[cP]at hj;omega
    have hdo:all[d]?=some all[d]:=bV hdl;exact ih d hlt all[d] i hdo (hcl d _ hdo (hd d h1)) h2
theorem G0{i:Nat}{a:En}:∀{r:List En} {ms:List Nat},oI.chkR i a r ms=true->∀(k:Nat) (b:En),r[k]?=some b->∃m,ms[k]?=some m/\a.ne<=b.nx/\(Nat.testBit m i=true\/nI a b=true)
 |[],_,_,k,b,h=>by simp at h
 |x::r,[],h,_,_,_=>by cases h
 |x::r,m::ms,h,k,b,hb=>by
  simp only[oI.chkR,fG,vR]at h;cases k with
  |zero=>simp at hb;subst hb;exact⟨m,rfl,ku h.1.1,by rw[<-Tv];exact h.1.2⟩
  |succ k=>
   obtain⟨m',h1,h2⟩:=G0 h.2 k b (by simpa using hb);exact⟨m',by simpa using h1,h2⟩
theorem I4:∀{es:List En} {i:Nat} {ms:List Nat},oI i es ms=true->∀(p q:Nat) (a b:En),es[p]?=some a->es[q]?=some b->p<q->∃m,ms[q]?=some m/\a.ne<=b.nx/\(Nat.testBit m (i+p)=true\/nI a b=true)
 |[],_,_,_,p,q,a,b,h,_,_=>by simp at h
 |x::r,_,[],h,_,_,_,_,_,_,_=>by cases h
 |x::r,i,_::ms,h,p,q,a,b,hp,hq,hlt=>by
  simp only[oI,fG]at h;cases q with
  |zero=>omega
  |succ q=>
   have hq':r[q]?=some b:=by simpa using hq
   cases p with
   |zero=>
    simp at hp;subst hp;obtain⟨m,h1,h2⟩:=G0 h.1 q b hq';exact⟨m,by simpa using h1,h2⟩
   |succ p=>
    obtain⟨m,h1,h2⟩:=I4 h.2 p q a b (by simpa using hp) hq' (by omega);rw[show i+1+p=i+(p+1) by omega]at h2;exact⟨m,by simpa using h1,h2⟩
theorem zM{ms:List Nat}{es:List En}(h:oI 0 es ms=true)(p q:Nat)(a b:En)(hp:es[p]?=some a)(hq:es[q]?=some b)(hlt:p<q):a.ne<=b.nx/\(Nat.testBit (ms.getD (0+q) 0) (0+p)=true\/nI a b=true):=by
 obtain⟨m,h1,h2⟩:=I4 h p q a b hp hq hlt;rw[eK q,cy,h1];exact h2
open Go Go.RowKit Go.X
variable [eT]
structure Fx where
 n:Nat
 Q:Env->World->Prop
 X:Nat->Prop
 w0:World
 H0:Bool->Hp
 m:Nat
 ν0:Nu
def St(F:Fx)(L:SS)(e:Env)(w:World):Prop:= ∃ν,(∀k,L.nx<=k->ν k=none)/\F.m<=L.nx/\(∀k,k<F.m->ν k=F.ν0 k)/\cH F.X F.w0 F.H0 ν (aQ L.bC) w/\di ν (HF F.X F.w0 F.H0 ν (aQ L.bC) w) (aQ L.bQ) e
def SS.lF(L:SS)(ef:Ef):SS:=⟨L.nx+ef.n,ef.up++L.bC,ef.sl++L.bQ⟩
def SS.set(L:SS)(d:Nat)(s:Option Sv):SS:=⟨L.nx,L.bC,(d,s)::L.bQ⟩
def SS.mg(L:SS):Option Nat->Option Sv->SS
 |some d,s=>L.set d s
 |none,_=>L
theorem KK{L:SS}{d:Nat}{s:Option Sv}:aQ (L.set d s).bQ=xq (aQ L.bQ) d s:=rfl
theorem qE{L:SS}{d:Option Nat}{s:Option Sv}:aQ (L.mg d s).bQ=Cv (aQ L.bQ) d s:=by cases d<;>rfl
theorem kK{L:SS}{d:Option Nat}{s:Option Sv}:(L.mg d s).bC=L.bC/\(L.mg d s).nx=L.nx:=by cases d<;>exact⟨rfl,rfl⟩
theorem oT{L:SS}{ef:Ef}:aQ (L.lF ef).bC=bG ef.up (aQ L.bC):=by funext t;exact qm _ _ _
theorem rQ{L:SS}{ef:Ef}:aQ (L.lF ef).bQ=bG ef.sl (aQ L.bQ):=by funext t;exact qm _ _ _
theorem di.ap{ν:Nu}{H:Bool->Hp}{f:SF}{e:Env}{l:List (Nat×Option Sv)}(h:di ν H f e)(hl:di ν H (aQ l) e):di ν H (bG l f) e:=by
 intro t sv ht;cases hm:bZ t (l.map (·.1))with
 |false=>rw[jM hm]at ht;exact h t sv ht
 |true=>
  refine hl t sv ?_;have:bG l f t=bG l (aQ []) t:=pY hm;rw[<-qm,lG]at this;rw[<-this];exact ht
inductive Md where
 |rg (all r:List Oper) (kn:List (Nat×Bool))
 |sw
def apn{α:Type 1}:List α->List α->List α
 |[],r=>r
 |x::l,r=>x::(l++r)
theorem QL{α:Type 1}{l r:List α}:apn l r=l++r:=by cases l<;>rfl
def addN(n:Nat):Nat->Nat
 |0=>n
 |m+1=>n+(m+1)
theorem OP{n m:Nat}:addN n m=n+m:=by cases m<;>rfl
def ko(L:SS)(ef:Ef)(d:Option Nat)(sv:Option Sv)(K:SS->Prop):Prop:=match L with
 |⟨n,os,ss⟩=>match ef with
  |⟨m,up,sl⟩=>match d with
   |some d=>K ⟨addN n m,apn up os,(d,sv)::apn sl ss⟩
   |none=>K ⟨addN n m,apn up os,apn sl ss⟩
theorem oc{L:SS}{ef:Ef}{d:Option Nat}{sv:Option Sv}{K:SS->Prop}(h:ko L ef d sv K):K ((L.lF ef).mg d sv):=by
 obtain⟨n,os,ss⟩:=L;obtain⟨m,up,sl⟩:=ef;cases d<;>simp only[ko,QL,OP]at h<;>exact h
def wx(L:SS)(d:Nat)(s:Option Sv)(K:SS->Prop):Prop:=match L with
 |⟨n,os,ss⟩=>K ⟨n,os,(d,s)::ss⟩
theorem zD{L:SS}{d:Nat}{s:Option Sv}{K:SS->Prop}(h:wx L d s K):K (L.set d s):=h
def BC:Bool->(Bool->Prop)->Prop
 |true,K=>K true
 |false,K=>K false
theorem KA:∀{x:Bool} {K:Bool->Prop},BC x K->K x
 |true,_,h=>h
 |false,_,h=>h
structure jm {P:Program}(tb:List (dG P))(F:Fx)(k:List It)(L:SS):Prop where
 ok:∀e w,St F L e w->cv P F.n k F.Q e w
structure RlN {P:Program}(tb:List (dG P))(F:Fx)(all r:List Oper)(k:List It)(L:SS):Prop where
 ok:∀e w,St F L e w->Rl P all r (cv P F.n k F.Q) e w
structure cr {P:Program}(tb:List (dG P))(o:Oper)(L:SS)(K:Ef->Option Sv->Prop):Prop where
 ok:∃ef sv,LT P L o.op o.type ef sv/\K ef sv
structure uO {P:Program}(tb:List (dG P))(F:Fx)(L:SS):Prop where
 ok:∀e w,St F L e w->F.Q e w
structure tO {P:Program}(tb:List (dG P))(F:Fx)(J:Env->World->Prop)(L:SS):Prop where
 ok:∀e w,St F L e w->J e w
def oN{P:Program}(tb:List (dG P))(o:Oper)(L:SS)(K:Ef->Option Sv->Prop):Prop:=match au tb L o.op with
 |some (ef,sv)=>K ef sv
 |none=>cr tb o L K
theorem Bf{P:Program}{tb:List (dG P)}{o:Oper}{L:SS}{K:Ef->Option Sv->Prop}(h:oN tb o L K):∃ef sv,LT P L o.op o.type ef sv/\K ef sv:=by
 unfold oN at h;split at h
 . rename_i ef sv hau;exact⟨ef,sv,au_ok hau,h⟩
 . exact h.ok
def Hl:List Oper->Bool
 |[]=>true
 |o::r=>match o.guard with
  |none=>Hl r
  |some _=>false
def rK:Bool->Bool->Bool
 |true,b=>b
 |false,true=>false
 |false,false=>true
theorem nK{x b:Bool}:rK x b=(x==b):=by cases x<;>cases b<;>rfl
def F0:List (Nat×Bool)->Nat->Option Bool
 |[],_=>none
 |(d,s)::r,t=>bif Nat.beq t d then some s else F0 r t
def Gst{P:Program}(tb:List (dG P))(F:Fx)(ih:Md->List It->SS->Prop):Md->List It->SS->Prop
 |.rg all [] _,k,L=>ih .sw k L
 |.rg all (o::r) kn,k,L=>match o.guard with
  |none=>oN tb o L fun ef sv=>ko L ef o.dst sv fun L=>ih (.rg all r kn) k L
  |some (j,b)=>match mf all j with
   |some dj=>match aQ L.bQ dj with
    |some (.s (.lf (.v (.bool x))))=>match F0 kn j with
     |some x'=>match rK x x' with
      |true=>match rK x' b with
       |true=>oN tb o L fun ef sv=>ko L ef o.dst sv fun L=>ih (.rg all r kn) k L
       |false=>ko L .z o.dst (some (.fp [])) fun L=>ih (.rg all r kn) k L
      |false=>RlN tb F all (o::r) k L
     |none=>BC x fun x'=>match rK x' b with
      |true=>wx L dj (eF (.bool x')) fun L=>oN tb o L fun ef sv=>ko L ef o.dst sv fun L=>ih (.rg all r ((j,x')::kn)) k L
      |false=>wx L dj (eF (.bool x')) fun L=>ko L .z o.dst (some (.fp [])) fun L=>ih (.rg all r ((j,x')::kn)) k L
    |some (.fp [])=>ko L .z o.dst (some (.fp [])) fun L=>ih (.rg all r kn) k L
    |_=>RlN tb F all (o::r) k L
   |none=>RlN tb F all (o::r) k L
 |.sw,[],L=>uO tb F L
 |.sw,.du _::k,L=>ih .sw k L
 |.sw,.scp::k,L=>ih .sw k L
 |.sw,.back J::_,L=>tO tb F J L
 |.sw,.code c::k,L=>match c with
  |.skip=>ih .sw k L
  |.label _=>ih .sw k L
  |.seq a b=>ih .sw (.code a::.code b::k) L
  |.region i ops false=>match Hl ops.toList with
   |true=>match l5 F.n ops.toList with
    |true=>ih (.rg ops.toList ops.toList []) k L
    |false=>jm tb F (.code (.region i ops false)::k) L
   |false=>jm tb F (.code (.region i ops false)::k) L
  |.exit i=>match rm i k with
   |some k'=>ih .sw k' L
   |none=>jm tb F (.code (.exit i)::k) L
  |.ret=>uO tb F L
  |c=>jm tb F (.code c::k) L
def mdN{P:Program}(tb:List (dG P))(F:Fx):Md->List It->SS->Prop
 |.sw,k,L=>jm tb F k L
 |.rg all r _,k,L=>RlN tb F all r k L
noncomputable def G{P:Program}(tb:List (dG P))(F:Fx)(f:Nat):Md->List It->SS->Prop:=Nat.rec (motive:=fun _=>Md->List It->SS->Prop) (mdN tb F) (fun _ ih=>Gst tb F ih) f
section
variable {F:Fx} {L:SS} {e:Env} {w:World}
theorem St.fact(h:St F L e w){t:Nat}{v:Value}(hs:aQ L.bQ t=some (.s (.lf (.v v)))):e t=v/\one v=true:=by
 obtain⟨ν,_,_,_,_,h4⟩:=h;exact h4 t _ hs
theorem JF{f:SF}{d:Nat}{s:Option Sv}(h:f d=s):xq f d s=f:=by
 funext t;show(bif Nat.beq t d then s else f t)=f t;cases hb:Nat.beq t d with
 |false=>rfl
 |true=>rw[dH hb,h];rfl
theorem St.known(h:St F L e w){t:Nat}{v:Value}(hs:aQ L.bQ t=some (.s (.lf (.v v)))){v':Value}(hv:v=v'):St F (L.set t (eF v')) e w:=by
 obtain⟨ν,h1,h2,h3,h4,h5⟩:=h;subst hv;refine⟨ν,h1,h2,h3,h4,?_⟩;rw[KK,JF (show aQ L.bQ t=eF v from hs)];exact h5
theorem St.skip0(h:St F L e w){o:Oper}{l:List Oper}(d:Option Nat):St F (L.mg d (some (.fp []))) (jF e d undef) w:=by
 obtain⟨ν,h1,h2,h3,h4,h5⟩:=h;refine⟨ν,by rw[kK.2];exact h1,by rw[kK.2];exact h2,h3,by rw[kK.1];exact h4,?_⟩;rw[qE,kK.1];exact h5.mg (s:=some (.fp [])) ⟨[],rfl,rfl⟩
theorem tj:L.lF .z=L:=by
 obtain⟨n,os,ss⟩:=L;rfl
theorem St.skip(h:St F L e w){o:Oper}{l:List Oper}(d:Option Nat):St F ((L.lF .z).mg d (some (.fp []))) (jF e d undef) w:=by
 rw[tj];exact h.skip0 (o:=o) (l:=l) d
theorem St.step{P:Program}{op:Op}{ty:TypeId}{ef:Ef}{sv:Option Sv}(h:St F L e w)(hl:LT P L op ty ef sv)(d:Option Nat):aF P op ty (ev e) w fun v w'=>St F ((L.lF ef).mg d sv) (jF e d v) w':=by
 obtain⟨ν,h1,h2,h3,h4,h5⟩:=h;refine(hl.ok F.X F.w0 F.H0 ν (aQ L.bC) e w (fun _ _ h=>h) (fun k hk _=>h1 k hk) h4 h5).mono ?_;rintro v w' ⟨ν',g1,g2,g3,g3',g4⟩;refine⟨ν',fun k hk=>?_,?_,fun k hk=>?_,?_,?_⟩
 . rw[kK.2]at hk;have hk:L.nx+ef.n<=k:=hk;rw[g1 k (.inr hk)];exact h1 k (by omega)
 . rw[kK.2];show F.m<=L.nx+ef.n;omega
 . rw[g1 k (.inl (by omega))];exact h3 k hk
 . rw[kK.1,oT];exact g2
 . rw[kK.1,qE,oT,rQ];exact((h5.mono (g1.le fun k hk _=>h1 k hk) g3).ap g3').mg g4
end
section
variable {P:Program} {tb:List (dG P)} {F:Fx}
theorem Ql{all:List Oper}{o:Oper}{r:List Oper}{K:Env->World->Prop}{e:Env}{w:World}(hw:iG all o e=true)(h:aF P o.op o.type (ev e) w fun v w'=>Rl P all r K (jF e o.dst v) w'):Rl P all (o::r) K e w:=by
 simp only[Rl,hw];exact h
theorem Dx{all:List Oper}{o:Oper}{r:List Oper}{K:Env->World->Prop}{e:Env}{w:World}(hw:iG all o e=false)(h:Rl P all r K (jF e o.dst undef) w):Rl P all (o::r) K e w:=by
 simp only[Rl,hw];exact h
theorem E8{all:List Oper}{o:Oper}{j dj:Nat}{b x:Bool}{e:Env}(hg:o.guard=some (j,b))(hj:mf all j=some dj)(he:e dj=.bool x):iG all o e=(x==b):=by
 unfold iG;rw[hg];show gy all e j b=_;unfold gy;rw[hj];simp[he]
theorem I9{all:List Oper}{o:Oper}{j dj:Nat}{b:Bool}{e:Env}(hg:o.guard=some (j,b))(hj:mf all j=some dj)(he:e dj=undef):iG all o e=false:=by
 unfold iG;rw[hg];show gy all e j b=_;unfold gy;rw[hj];simp[he,undef]
theorem HN{ν:Nu}{H:Bool->Hp}{v:Value}(h:(Sv.fp []).R ν H v):v=undef:=by
 obtain⟨vs,g1,g2⟩:=h;rw[g1,show vs=[] from g2];rfl
theorem G_ok:∀(f:Nat) (m:Md) (k:List It) (L:SS),G tb F f m k L->mdN tb F m k L:=by
 intro f
 induction f with
 |zero=>intro m k L h;cases m<;>exact h
 |succ f ih=>
  intro m k L h;have h:Gst tb F (G tb F f) m k L:=h;cases m with
  |rg all r kn=>
   cases r with
   |nil=>exact⟨fun e w hs=>Rl.nil ((ih .sw k L h).ok e w hs)⟩
   |cons o r=>
    refine⟨fun e w hs=>?_⟩;have opK:∀{L:SS} {kn:List (Nat×Bool)},St F L e w->iG all o e=true->oN tb o L (fun ef sv=>ko L ef o.dst sv fun L=>G tb F f (.rg all r kn) k L)->Rl P all (o::r) (cv P F.n k F.Q) e w:=by
     intro L kn hs hw h;obtain⟨ef,sv,hl,hk⟩:=Bf h;exact Ql hw ((hs.step hl o.dst).mono fun v w' hv=>(ih _ _ _ (oc hk)).ok _ _ hv)
    simp only[Gst]at h;split at h
    . rename_i hg;exact opK hs (by unfold iG;rw[hg]) h
    . rename_i j b hg;split at h
      . rename_i dj hj;split at h
        . rename_i x hx;have he:=(hs.fact hx).1;split at h
          . rename_i x' _;split at h
            . rename_i hk0;have e0:x=x':=by
               rw[nK]at hk0;simpa using hk0
              subst e0;have hw:=E8 hg hj he;split at h
              . rename_i hk;exact opK hs (by rw[hw,<-nK];exact hk) h
              . rename_i hk;exact Dx (by rw[hw,<-nK];exact hk) ((ih _ _ _ (oc h)).ok _ _ (hs.skip (o:=o) (l:=all) o.dst))
            . exact h.ok e w hs
          . have h:=KA h;have hs':=hs.known hx rfl;have hw:=E8 hg hj he;split at h
            . rename_i hk;exact opK hs' (by rw[hw,<-nK];exact hk) (zD h)
            . rename_i hk;exact Dx (by rw[hw,<-nK];exact hk) ((ih _ _ _ (oc (zD h))).ok _ _ (hs'.skip (o:=o) (l:=all) o.dst))
        . rename_i hx;have he:e dj=undef:=by
           obtain⟨ν,_,_,_,_,h4⟩:=hs;exact HN (h4 dj _ hx)
          exact Dx (I9 hg hj he) ((ih _ _ _ (oc h)).ok _ _ (hs.skip (o:=o) (l:=all) o.dst))
        . exact h.ok e w hs
      . exact h.ok e w hs
  |sw=>
   refine⟨fun e w hs=>?_⟩;cases k with
   |nil=>exact h.ok e w hs
   |cons x k=>
    cases x with
    |du i=>exact(ih .sw k L h).ok e w hs
    |scp=>exact(ih .sw k L h).ok e w hs
    |back J=>exact h.ok e w hs
    |code c=>
     simp only[Gst]at h;split at h
     . exact cv.skip ((ih .sw k L h).ok e w hs)
     . exact cv.label ((ih .sw k L h).ok e w hs)
     . exact cv.seq ((ih .sw _ L h).ok e w hs)
     . split at h
       . split at h
         . rename_i i ops _ _ hf _ hd;have:=cv.region (id:=i) (k:=k) (Q:=F.Q) (e:=e) (w:=w) (P:=P) hd ((ih (.rg ops.toList ops.toList []) k L h).ok e w hs);simpa using this
         . exact h.ok e w hs
       . exact h.ok e w hs
     . split at h
       . rename_i k' hk;exact cv.exit hk ((ih .sw k' L h).ok e w hs)
       . exact h.ok e w hs
     . exact cv.ret (h.ok e w hs)
     . exact h.ok e w hs
end
abbrev vz:Nat:=1000000
section
variable {P:Program} (tb:List (dG P)) (F:Fx)
abbrev Gr(all r:List Oper)(k:List It)(L:SS):Prop:=G tb F vz (.rg all r []) k L
abbrev Gs(k:List It)(L:SS):Prop:=G tb F vz .sw k L
end
section
variable {P:Program} {tb:List (dG P)} {F:Fx} {all r:List Oper} {k:List It} {L:SS}
theorem Gr.ok(h:Gr tb F all r k L):RlN tb F all r k L:=G_ok vz _ k L h
theorem Gs.ok(h:Gs tb F k L):jm tb F k L:=G_ok vz _ k L h
end
open Go Go.RowKit Go.X
variable [eT]
def idsL:Lf->List Nat
 |.own i=>[i]
 |.ptr i _=>[i]
 |.mp i=>[i]
 |.sg i _ _ _=>[i]
 |.ap i _ _ _=>[i]
 |_=>[]
def vD:List Lf->List Nat
 |[]=>[]
 |l::r=>idsL l++vD r
def idsS:S1->List Nat
 |.lf l=>idsL l
 |.agg l=>vD l
def H6:List S1->List Nat
 |[]=>[]
 |l::r=>idsS l++H6 r
def EK:Option Sv->List Nat
 |some (.s x)=>idsS x
 |some (.fp l)=>H6 l
 |some (.pr _ c _)=>vD c
 |some (.pw i _ _ _ _ _)=>[i]
 |some (.fc _ ps)=>ps
 |some (.pa i _ _ _ _ _ _)=>[i]
 |none=>[]
def needO:Op->Bool
 |.move _=>false
 |.assign _=>false
 |.pick .. =>false
 |.unOp .. =>false
 |.binOp .. =>false
 |.extract .. =>false
 |.fieldAddr .. =>false
 |.build .. =>false
 |.nilCheck _=>false
 |.field .. =>false
 |.box .. =>false
 |_=>true
def EA(L:SS):List Nat->List Nat
 |[]=>[]
 |t::r=>EK (aQ L.bQ t)++EA L r
def idsB(g:OF):List Nat->List Nat
 |[]=>[]
 |i::r=>i::((match g i with
  |some (.box l)=>vD l
  |_=>[])++idsB g r)
def needB:Op->Bool
 |.call .. =>true
 |_=>false
def nG(L:SS)(op:Op)(ts:List Nat):List Nat:=bif needO op then(bif needB op then idsB (aQ L.bC) (EA L ts)else EA L ts)else[]
def uc{α:Type 1}(g:Nat->Option α):List Nat->List (Nat×Option α)
 |[]=>[]
 |i::r=>(i,g i)::uc g r
def xZ(L:SS)(op:Op)(ts:List Nat):SS:=⟨L.nx,uc (aQ L.bC) (nG L op ts),uc (aQ L.bQ) ts⟩
theorem F3{α:Type 1}{g:Nat->Option α}:∀{l:List Nat} {i:Nat},aQ (uc g l) i=bif bZ i l then g i else none
 |[],_=>rfl
 |j::r,i=>by
  show(bif Nat.beq i j then g j else aQ (uc g r) i)=bif (Nat.beq i j||bZ i r)then g i else none;cases hb:Nat.beq i j with
  |true=>rw[dH hb];rfl
  |false=>rw[F3 (l:=r)];rfl
structure DkN {P:Program}(tb:List (dG P))(F:Fx)(n0:Nat)(all:List Oper)(k:List It)(acc:List Er)(L:SS):Prop where
 ok:pU n0 L.nx all (acc.reverse.map Er.en)=true/\Gs tb F k L
theorem qF{d:Option Nat}{sv:Option Sv}{sl:List (Nat×Option Sv)}{f:SF}:bG (mQ d sv sl) f=Cv (bG sl f) d sv:=by cases d<;>rfl
def GDs{P:Program}(tb:List (dG P))(F:Fx)(n0:Nat)(all:List Oper)(k:List It)(ih:List (Nat×Bool)->List Oper->List Er->SS->Prop):List (Nat×Bool)->List Oper->List Er->SS->Prop
 |_,[],acc,L=>DkN tb F n0 all k acc L
 |kn,o::r,acc,L=>match o.guard with
  |none=>oN tb o (xZ L o.op (eM all o)) fun ef sv=>ko L ef o.dst sv fun L'=>ih kn r (⟨iz (eM all o),nG L o.op (eM all o),L.nx,L.nx+ef.n,iz o.dst.toList,ef.sl.map (·.1),ef.up.map (·.1)⟩::acc) L'
  |some (j,b)=>match mf all j with
   |some dj=>match aQ L.bQ dj with
    |some (.s (.lf (.v (.bool x))))=>match F0 kn j with
     |some x'=>match rK x x' with
      |true=>match rK x' b with
       |true=>oN tb o (xZ L o.op (eM all o)) fun ef sv=>ko L ef o.dst sv fun L'=>ih kn r (⟨iz (eM all o),nG L o.op (eM all o),L.nx,L.nx+ef.n,iz o.dst.toList,ef.sl.map (·.1),ef.up.map (·.1)⟩::acc) L'
       |false=>ko L .z o.dst (some (.fp [])) fun L'=>ih kn r (⟨iz (eM all o),[],L.nx,L.nx+0,iz o.dst.toList,[],[]⟩::acc) L'
      |false=>False
     |none=>BC x fun x'=>match rK x' b with
      |true=>wx L dj (eF (.bool x')) fun L=>oN tb o (xZ L o.op (eM all o)) fun ef sv=>ko L ef o.dst sv fun L'=>ih ((j,x')::kn) r (⟨iz (eM all o),nG L o.op (eM all o),L.nx,L.nx+ef.n,iz o.dst.toList,ef.sl.map (·.1),ef.up.map (·.1)⟩::acc) L'
      |false=>wx L dj (eF (.bool x')) fun L=>ko L .z o.dst (some (.fp [])) fun L'=>ih ((j,x')::kn) r (⟨iz (eM all o),[],L.nx,L.nx+0,iz o.dst.toList,[],[]⟩::acc) L'
    |some (.fp [])=>ko L .z o.dst (some (.fp [])) fun L'=>ih kn r (⟨iz (eM all o),[],L.nx,L.nx+0,iz o.dst.toList,[],[]⟩::acc) L'
    |_=>False
   |none=>False
noncomputable def GD{P:Program}(tb:List (dG P))(F:Fx)(n0:Nat)(all:List Oper)(k:List It)(f:Nat):List (Nat×Bool)->List Oper->List Er->SS->Prop:=Nat.rec (motive:=fun _=>List (Nat×Bool)->List Oper->List Er->SS->Prop) (fun _ _ _ _=>False) (fun _ ih=>GDs tb F n0 all k ih) f
section
variable {P:Program} {tb:List (dG P)} {F:Fx} {all:List Oper} {k:List It}
structure xU (P:Program)(all:List Oper)(gS:SF)(gO:OF)(ev:Ev)(o:Oper):Prop where
 ok:∀(X:Nat->Prop) (w0:World) (H0:Bool->Hp) (ν:Nu) (oF:OF) (e:Env) (w:World),(∀j ob,bZ j ev.ro=true->gO j=some ob->oF j=some ob)->(∀k,ev.nx<=k->k<ev.nx+ev.ef.n->ν k=none)->cH X w0 H0 ν oF w->di ν (HF X w0 H0 ν oF w) (fun t=>bif bZ t ev.rd then gS t else none) e->
  kM P all o e w fun v w'=>∃ν',iA ev.nx ev.ef.n ν ν'/\cH X w0 H0 ν' (bG ev.ef.up oF) w'/\(∀κ,Le (HF X w0 H0 ν oF w κ) (HF X w0 H0 ν' (bG ev.ef.up oF) w' κ))/\∀f:SF,di ν' (HF X w0 H0 ν' (bG ev.ef.up oF) w') f e->di ν' (HF X w0 H0 ν' (bG ev.ef.up oF) w') (bG ev.su f) (jF e o.dst v)
theorem Ct{L:SS}{o:Oper}{ef:Ef}{sv:Option Sv}(hl:LT P (xZ L o.op (eM all o)) o.op o.type ef sv)(hw:∀(ν:Nu) (H:Bool->Hp) (e:Env),di ν H (fun t=>bif bZ t (eM all o)then aQ L.bQ t else none) e->iG all o e=true):
 xU P all (aQ L.bQ) (aQ L.bC) ⟨eM all o,nG L o.op (eM all o),L.nx,o.dst,sv,ef⟩ o:=by
 refine⟨fun X w0 H0 ν oF e w ho hn hS hs=>?_⟩;unfold kM;rw[hw ν _ e hs];refine(hl.ok X w0 H0 ν oF e w (fun i ob hi=>?_) hn hS ?_).mono ?_
 . have hi:aQ (uc (aQ L.bC) (nG L o.op (eM all o))) i=some ob:=hi;rw[F3]at hi;cases hm:bZ i (nG L o.op (eM all o))with
   |false=>rw[hm]at hi;cases hi
   |true=>rw[hm]at hi;exact ho i ob hm hi
 . have e1:aQ (xZ L o.op (eM all o)).bQ=fun t=>bif bZ t (eM all o)then aQ L.bQ t else none:=by funext t;exact F3
   rw[e1];exact hs
 . rintro v w' ⟨ν',g1,g2,g3,g4,g5⟩;exact⟨ν',g1,g2,g3,fun f hf=>by show di _ _ (bG (mQ _ _ _) f) _;rw[qF];exact(hf.ap g4).mg g5⟩
theorem DG{L:SS}{o:Oper}(hw:∀(ν:Nu) (H:Bool->Hp) (e:Env),di ν H (fun t=>bif bZ t (eM all o)then aQ L.bQ t else none) e->iG all o e=false):
 xU P all (aQ L.bQ) (aQ L.bC) ⟨eM all o,[],L.nx,o.dst,some (.fp []),.z⟩ o:=by
 refine⟨fun X w0 H0 ν oF e w ho hn hS hs=>?_⟩;unfold kM;rw[hw ν _ e hs];exact⟨ν,iA.refl,hS,fun _=>Le.refl _,fun f hf=>by show di _ _ (bG (mQ _ _ _) f) _;rw[qF];exact hf.mg (s:=some (.fp [])) ⟨[],rfl,rfl⟩⟩
theorem Tx{o:Oper}{j dj:Nat}{b:Bool}(hg:o.guard=some (j,b))(hj:mf all j=some dj):bZ dj (eM all o)=true:=by
 refine iV.2 ?_;unfold eM;rw[hg];dsimp only;rw[hj];exact qW _ (by simp)
def sK(P:Program)(all:List Oper)(gS:SF)(gO:OF)(evs:List Ev)(ops:List Oper):Prop:=evs.length=ops.length/\∀(i:Nat) (ev:Ev) (o:Oper),evs[i]?=some ev->ops[i]?=some o->xU P all (fS Tr 0 (evs.take i) gS) (fO Tr 0 (evs.take i) gO) ev o
theorem sK.snoc{gS:SF}{gO:OF}{evs:List Ev}{ops:List Oper}{ev:Ev}{o:Oper}(h:sK P all gS gO evs ops)(h':xU P all (fS Tr 0 evs gS) (fO Tr 0 evs gO) ev o):sK P all gS gO (evs++[ev]) (ops++[o]):=by
 refine⟨by simp[h.1],fun i ev' o' h1 h2=>?_⟩;rcases cw i evs.length with hi|hi
 . rw[jW hi]at h1;rw[jW (by rw[<-h.1];exact hi)]at h2;rw[qV (B9 hi)];exact h.2 i ev' o' h1 h2
 . have hi':i=evs.length:=by
    have:=(dU.1 h1).1;simp at this;omega
   subst hi';rw[ov (bK _),ox]at h1;rw[h.1,ov (bK _),ox]at h2;simp at h1 h2;subst h1;subst h2;rw[qV (bK _),tA];exact h'
theorem PZ{gS:SF}{evs:List Ev}{ev:Ev}:fS Tr 0 (evs++[ev]) gS=bG ev.su (fS Tr 0 evs gS):=by rw[CH];rfl
theorem Qj{gO:OF}{evs:List Ev}{ev:Ev}:fO Tr 0 (evs++[ev]) gO=bG ev.ef.up (fO Tr 0 evs gO):=by rw[E4];rfl
theorem GD_ok{n0:Nat}{gS:SF}{gO:OF}:∀(f:Nat) (kn:List (Nat×Bool)) (r:List Oper) (acc:List Er) (L:SS) (done:List Oper) (evs:List Ev),all=done++r->evs.map Ev.er=acc.reverse->sK P all gS gO evs done->aQ L.bQ=fS Tr 0 evs gS->aQ L.bC=fO Tr 0 evs gO->
    GD tb F n0 all k f kn r acc L->∃evs' L',sK P all gS gO evs' all/\pU n0 L'.nx all (evs'.map Ev.en)=true/\Gs tb F k L'/\aQ L'.bQ=fS Tr 0 evs' gS/\aQ L'.bC=fO Tr 0 evs' gO:=by
  intro f
  induction f with
  |zero=>intro kn r acc L done evs _ _ _ _ _ h;exact h.elim
  |succ f ih=>
    intro kn r acc L done evs hall hen hev hsl hob h;have h:GDs tb F n0 all k (GD tb F n0 all k f) kn r acc L:=h;cases r with
    |nil=>
      rw[lG]at hall;obtain⟨h1,h2⟩:=h.ok;exact⟨evs,L,by rw[hall];rw[hall]at hev;exact hev,by rw[<-hen,mq]at h1;exact h1,h2,hsl,hob⟩
    |cons o r=>
      have go:∀(kn:List (Nat×Bool)) (L1:SS) (ev:Ev) (L2:SS),aQ L1.bQ=aQ L.bQ->aQ L1.bC=aQ L.bC->xU P all (aQ L1.bQ) (aQ L1.bC) ev o->aQ L2.bQ=bG ev.su (aQ L1.bQ)->aQ L2.bC=bG ev.ef.up (aQ L1.bC)->GD tb F n0 all k f kn r (ev.er::acc) L2->
          ∃evs' L',sK P all gS gO evs' all/\pU n0 L'.nx all (evs'.map Ev.en)=true/\Gs tb F k L'/\aQ L'.bQ=fS Tr 0 evs' gS/\aQ L'.bC=fO Tr 0 evs' gO:=by
        intro kn L1 ev L2 q1 q2 q3 q4 q5 q6;rw[q1,q2,hsl,hob]at q3;refine ih kn r _ L2 (done++[o]) (evs++[ev]) (by rw[hall];simp) (by simp[hen]) (hev.snoc q3) ?_ ?_ q6
        . rw[q4,q1,hsl,PZ]
        . rw[q5,q2,hob,Qj]
      simp only[GDs]at h;split at h
      . rename_i hg;obtain⟨ef,sv,hl,hk⟩:=Bf h;refine go _ L ⟨eM all o,nG L o.op (eM all o),L.nx,o.dst,sv,ef⟩ _ rfl rfl (Ct hl fun ν H e hs=>by unfold iG;rw[hg]) ?_ ?_ (oc hk)
        . show _=bG (mQ _ _ _) _;rw[qE,rQ,qF]
        . rw[kK.1,oT]
      . rename_i j b hg;split at h
        . rename_i dj hj;have hmj:=Tx hg hj;split at h
          . rename_i x hx;have e0:aQ (L.set dj (eF (.bool x))).bQ=aQ L.bQ:=by rw[KK,JF (show aQ L.bQ dj=eF (.bool x) from hx)]
            have hwt:∀(L1:SS),aQ L1.bQ=aQ L.bQ->∀(ν:Nu) (H:Bool->Hp) (e:Env),di ν H (fun t=>bif bZ t (eM all o)then aQ L1.bQ t else none) e->iG all o e=(x==b):=by
              intro L1 h1 ν H e hs;have:=hs dj (.s (.lf (.v (.bool x)))) (by show(bif bZ dj _ then aQ L1.bQ dj else none)=_;rw[h1,hmj];exact hx);exact E8 hg hj this.1
            split at h
            . rename_i x' _;split at h
              . rename_i hk0;have e1:x=x':=by
                  rw[nK]at hk0;simpa using hk0
                subst e1;split at h
                . rename_i hk;obtain⟨ef,sv,hl,hkk⟩:=Bf h;refine go _ L ⟨eM all o,nG L o.op (eM all o),L.nx,o.dst,sv,ef⟩ _ rfl rfl (Ct hl fun ν H e hs=>by rw[hwt _ rfl ν H e hs,<-nK];exact hk) ?_ ?_ (oc hkk)
                  . show _=bG (mQ _ _ _) _;rw[qE,rQ,qF]
                  . rw[kK.1,oT]
                . rename_i hk;refine go _ L ⟨eM all o,[],L.nx,o.dst,some (.fp []),.z⟩ _ rfl rfl (DG fun ν H e hs=>by rw[hwt _ rfl ν H e hs,<-nK];exact hk) ?_ ?_ (oc h)
                  . show _=bG (mQ _ _ _) _;rw[tj,qE,qF];rfl
                  . rw[tj,kK.1];rfl
              . exact h.elim
            . have h:=KA h;split at h
              . rename_i hk;obtain⟨ef,sv,hl,hkk⟩:=Bf (zD h);refine go _ (L.set dj (eF (.bool x))) ⟨eM all o,nG (L.set dj (eF (.bool x))) o.op (eM all o),L.nx,o.dst,sv,ef⟩ _ e0 rfl (Ct hl fun ν H e hs=>by rw[hwt _ e0 ν H e hs,<-nK];exact hk) ?_ ?_ (oc hkk)
                . show _=bG (mQ _ _ _) _;rw[qE,rQ,qF]
                . rw[kK.1,oT]
              . rename_i hk;refine go _ (L.set dj (eF (.bool x))) ⟨eM all o,[],L.nx,o.dst,some (.fp []),.z⟩ _ e0 rfl (DG fun ν H e hs=>by rw[hwt _ e0 ν H e hs,<-nK];exact hk) ?_ ?_ (oc (zD h))
                . show _=bG (mQ _ _ _) _;rw[tj,qE,qF];rfl
                . rw[tj,kK.1];rfl
          . rename_i hx;refine go _ L ⟨eM all o,[],L.nx,o.dst,some (.fp []),.z⟩ _ rfl rfl (DG fun ν H e hs=>?_) ?_ ?_ (oc h)
            . exact I9 hg hj (HN (hs dj (.fp []) (by show(bif bZ dj _ then aQ L.bQ dj else none)=_;rw[hmj];exact hx)))
            . show _=bG (mQ _ _ _) _;rw[tj,qE,qF];rfl
            . rw[tj,kK.1];rfl
          . exact h.elim
        . exact h.elim
def JD(F:Fx)(gS:SF)(gO:OF)(evs:List Ev)(nE:Nat)(D:Nat->Bool)(e:Env)(w:World):Prop:= ∃ν,cH F.X F.w0 F.H0 ν (fO D 0 evs gO) w/\di ν (HF F.X F.w0 F.H0 ν (fO D 0 evs gO) w) (fS D 0 evs gS) e/\(∀i ev,evs[i]?=some ev->D i=false->∀k,ev.nx<=k->k<ev.nx+ev.ef.n->ν k=none)/\(∀k,nE<=k->ν k=none)/\∀k,k<F.m->ν k=F.ν0 k
theorem Dj{D:Nat->Bool}{evs:List Ev}{i:Nat}{ev:Ev}{f:OF}(h:evs[i]?=some ev):fO D 0 evs f=fO D (i+1) (evs.drop (i+1)) (bif D i then bG ev.ef.up (fO D 0 (evs.take i) f)else fO D 0 (evs.take i) f):=by
 have hlt:=(dU.1 h).1;have h1:evs=evs.take i++ev::evs.drop (i+1):=by
  conv=>lhs;rw[<-mn i evs]
  rw[eU hlt,(dU.1 h).2]
 conv=>lhs;rw[h1]
 rw[E4];have:(evs.take i).length=i:=by simp;omega
 rw[this,eK];rfl
theorem FO{D:Nat->Bool}{evs:List Ev}{i:Nat}{ev:Ev}{f:SF}(h:evs[i]?=some ev):fS D 0 evs f=fS D (i+1) (evs.drop (i+1)) (bif D i then bG ev.su (fS D 0 (evs.take i) f)else fS D 0 (evs.take i) f):=by
 have hlt:=(dU.1 h).1;have h1:evs=evs.take i++ev::evs.drop (i+1):=by
  conv=>lhs;rw[<-mn i evs]
  rw[eU hlt,(dU.1 h).2]
 conv=>lhs;rw[h1]
 rw[CH];have:(evs.take i).length=i:=by simp;omega
 rw[this,eK];rfl
theorem Oo{n0:Nat}(hn0:F.m<=n0){gS:SF}{gO:OF}{evs:List Ev}{nE:Nat}(hev:sK P all gS gO evs all)(hc:pU n0 nE all (evs.map Ev.en)=true){D:Nat->Bool}{i:Nat}{o:Oper}{e:Env}{w:World}(ho:all[i]?=some o)(hD:D i=false)(hd:∀d∈eW o,D d=true)
 (hcl:∀j oj,all[j]?=some oj->D j=true->∀d∈eW oj,D d=true)(hJ:JD F gS gO evs nE D e w):kM P all o e w fun v w'=>JD F gS gO evs nE (fun j=>D j||Nat.beq j i) (jF e o.dst v) w':=by
 simp only[pU,fG]at hc;obtain⟨⟨⟨⟨_,hb⟩,_⟩,hrg⟩,hce⟩:=hc;have hi:i<all.length:=(dU.1 ho).1;have hie:i<evs.length:=by rw[hev.1];exact hi
 obtain⟨ev,hevi⟩:∃ev,evs[i]?=some ev:=⟨_,bV hie⟩;have ev_ok:=hev.2 i ev o hevi ho;have en_at:∀{j:Nat} {q:Ev},evs[j]?=some q->(evs.map Ev.en)[j]?=some q.en:=fun h=>by rw[gM,h];rfl
 have rng:∀{j:Nat} {q:Ev},evs[j]?=some q->n0<=q.nx/\q.nx+q.ef.n<=nE:=by
  intro j q h;have:=tp.1 hrg q.en (ni (en_at h));simp only[fG]at this;have h1:n0<=0+q.nx:=ku this.1;have h2:0+(q.nx+q.ef.n)<=nE:=ku this.2;exact⟨by omega,by omega⟩
 have post:∀{j:Nat} {q:Ev},evs[j]?=some q->i<j->D j=true->nI ev.en q.en=true:=by
  intro j q h hlt hDj;rcases(zM hce i j _ _ (en_at hevi) (en_at h) hlt).2 with h1|h1
  . rw[eK,eK]at h1;have hj:j<all.length:=by rw[<-hev.1];exact(dU.1 h).1
    have hjo:all[j]?=some all[j]:=bV hj;have:=Iu hb hcl j _ i hjo (hcl j _ hjo hDj) h1;rw[hD]at this;cases this
  . exact h1
 have pre:∀{j:Nat} {p:Ev},evs[j]?=some p->j<i->D j=true\/nI p.en ev.en=true:=by
  intro j p h hlt;rcases(zM hce j i _ _ (en_at h) (en_at hevi) hlt).2 with h1|h1
  . rw[eK,eK]at h1;exact .inl (Iu hb hcl i o j ho hd h1)
  . exact .inr h1
 have symN:∀{x:Nat} {a b:List Nat},(∀y∈a,bZ y b=false)->x∈b->bZ x a=false:=by
  intro x a b h hx;cases hm:bZ x a with
  |false=>rfl
  |true=>have:=h x (iV.1 hm);rw[iV.2 hx]at this;cases this
 have dropAt:∀{j:Nat} {q:Ev},(evs.drop (i+1))[j]?=some q->evs[i+1+j]?=some q:=fun h=>by rw[tk]at h;exact h
 have takeAt:∀{j:Nat} {p:Ev},(evs.take i)[j]?=some p->j<i/\evs[j]?=some p:=by
  intro j p h;rw[vP]at h;split at h
  . exact⟨by assumption,h⟩
  . cases h
 have rdO:∀x,bZ x ev.ro=true->fO D 0 evs gO x=fO Tr 0 (evs.take i) gO x:=by
  intro x hx;have hx:=iV.1 hx;rw[Dj hevi,hD];have h1:fO D (i+1) (evs.drop (i+1)) (fO D 0 (evs.take i) gO) x=fO (fun _=>false) (i+1) (evs.drop (i+1)) (fO D 0 (evs.take i) gO) x:=by
   refine sW fun j q hj=>?_;cases hDj:D (i+1+j)with
   |false=>exact .inl rfl
   |true=>exact .inr ((vE (post (dropAt hj) (by omega) hDj)).2.2.1 x hx)
  have h2:∀(l:List Ev) (j:Nat) (f:OF),fO (fun _=>false) j l f=f:=by
   intro l
   induction l with
   |nil=>intro j f;rfl
   |cons a r ih=>intro j f;exact ih (j+1) f
  show fO D (i+1) (evs.drop (i+1)) (fO D 0 (evs.take i) gO) x=_;rw[h1,h2];refine sW fun j p hj=>?_;obtain⟨hlt,hp⟩:=takeAt hj;rw[eK];rcases pre hp hlt with h|h
  . exact .inl h
  . exact .inr ((vE h).1 x hx)
 have rdS:∀t,bZ t ev.rd=true->fS D 0 evs gS t=fS Tr 0 (evs.take i) gS t:=by
  intro t ht;have ht:=iV.1 ht;rw[FO hevi,hD];have h1:fS D (i+1) (evs.drop (i+1)) (fS D 0 (evs.take i) gS) t=fS (fun _=>false) (i+1) (evs.drop (i+1)) (fS D 0 (evs.take i) gS) t:=by
   refine sa fun j q hj=>?_;cases hDj:D (i+1+j)with
   |false=>exact .inl rfl
   |true=>exact .inr ((vE (post (dropAt hj) (by omega) hDj)).2.2.2.2.1 t ht)
  have h2:∀(l:List Ev) (j:Nat) (f:SF),fS (fun _=>false) j l f=f:=by
   intro l
   induction l with
   |nil=>intro j f;rfl
   |cons a r ih=>intro j f;exact ih (j+1) f
  show fS D (i+1) (evs.drop (i+1)) (fS D 0 (evs.take i) gS) t=_;rw[h1,h2];refine sa fun j p hj=>?_;obtain⟨hlt,hp⟩:=takeAt hj;rw[eK];rcases pre hp hlt with h|h
  . exact .inl h
  . exact .inr ((vE h).2.2.2.1 t ht)
 obtain⟨ν,k1,k2,k3,k4,k5⟩:=hJ;have eO:fO (fun j=>D j||Nat.beq j i) 0 evs gO=bG ev.ef.up (fO D 0 evs gO):=by
  funext x;rw[Dj (D:=fun j=>D j||Nat.beq j i) hevi,Dj (D:=D) hevi,hD,qR];have h1:fO (fun j=>D j||Nat.beq j i) 0 (evs.take i) gO=fO D 0 (evs.take i) gO:=by
   funext y;refine sW fun j p hj=>.inl ?_;obtain⟨hlt,_⟩:=takeAt hj;rw[eK];have:Nat.beq j i=false:=by
    cases hb2:Nat.beq j i with
    |false=>rfl
    |true=>have:=dH hb2;omega
   simp[this]
  have h2:∀(f:OF),fO (fun j=>D j||Nat.beq j i) (i+1) (evs.drop (i+1)) f=fO D (i+1) (evs.drop (i+1)) f:=by
   intro f;funext y;refine sW fun j p hj=>.inl ?_;have:Nat.beq (i+1+j) i=false:=by
    cases hb2:Nat.beq (i+1+j) i with
    |false=>rfl
    |true=>have:=dH hb2;omega
   simp[this]
  show fO _ (i+1) (evs.drop (i+1)) (bif false||true then bG ev.ef.up (fO _ 0 (evs.take i) gO)else _) x=bG ev.ef.up (fO D (i+1) (evs.drop (i+1)) (fO D 0 (evs.take i) gO)) x;rw[h2,h1];show fO D (i+1) (evs.drop (i+1)) (bG ev.ef.up (fO D 0 (evs.take i) gO)) x=_;cases hm:bZ x ev.ks with
  |false=>
   rw[jM hm];exact Fz (jM hm)
  |true=>
   have hx:=iV.1 hm;have h3:∀(l:List Ev) (j:Nat) (f:OF),fO (fun _=>false) j l f=f:=by
    intro l
    induction l with
    |nil=>intro j f;rfl
    |cons a r ih=>intro j f;exact ih (j+1) f
   rw[show fO D (i+1) (evs.drop (i+1)) (bG ev.ef.up (fO D 0 (evs.take i) gO)) x=fO (fun _=>false) (i+1) (evs.drop (i+1)) (bG ev.ef.up (fO D 0 (evs.take i) gO)) x from by
    refine sW fun j q hj=>?_;cases hDj:D (i+1+j)with
    |false=>exact .inl rfl
    |true=>exact .inr (symN (vE (post (dropAt hj) (by omega) hDj)).2.1 hx),h3]
   exact pY hm
 have eS:fS (fun j=>D j||Nat.beq j i) 0 evs gS=bG ev.su (fS D 0 evs gS):=by
  funext x;rw[FO (D:=fun j=>D j||Nat.beq j i) hevi,FO (D:=D) hevi,hD,qR];have h1:fS (fun j=>D j||Nat.beq j i) 0 (evs.take i) gS=fS D 0 (evs.take i) gS:=by
   funext y;refine sa fun j p hj=>.inl ?_;obtain⟨hlt,_⟩:=takeAt hj;rw[eK];have:Nat.beq j i=false:=by
    cases hb2:Nat.beq j i with
    |false=>rfl
    |true=>have:=dH hb2;omega
   simp[this]
  have h2:∀(f:SF),fS (fun j=>D j||Nat.beq j i) (i+1) (evs.drop (i+1)) f=fS D (i+1) (evs.drop (i+1)) f:=by
   intro f;funext y;refine sa fun j p hj=>.inl ?_;have:Nat.beq (i+1+j) i=false:=by
    cases hb2:Nat.beq (i+1+j) i with
    |false=>rfl
    |true=>have:=dH hb2;omega
   simp[this]
  show fS _ (i+1) (evs.drop (i+1)) (bif false||true then bG ev.su (fS _ 0 (evs.take i) gS)else _) x=bG ev.su (fS D (i+1) (evs.drop (i+1)) (fS D 0 (evs.take i) gS)) x;rw[h2,h1];show fS D (i+1) (evs.drop (i+1)) (bG ev.su (fS D 0 (evs.take i) gS)) x=_;cases hm:bZ x (ev.su.map (·.1))with
  |false=>
   rw[jM hm];exact ES (jM hm)
  |true=>
   have hx:=iV.1 hm;have h3:∀(l:List Ev) (j:Nat) (f:SF),fS (fun _=>false) j l f=f:=by
    intro l
    induction l with
    |nil=>intro j f;rfl
    |cons a r ih=>intro j f;exact ih (j+1) f
   rw[show fS D (i+1) (evs.drop (i+1)) (bG ev.su (fS D 0 (evs.take i) gS)) x=fS (fun _=>false) (i+1) (evs.drop (i+1)) (bG ev.su (fS D 0 (evs.take i) gS)) x from by
    refine sa fun j q hj=>?_;cases hDj:D (i+1+j)with
    |false=>exact .inl rfl
    |true=>exact .inr ((vE (post (dropAt hj) (by omega) hDj)).2.2.2.2.2 x hx),h3]
   exact pY hm
 refine(ev_ok.ok F.X F.w0 F.H0 ν (fO D 0 evs gO) e w (fun j ob hj hg=>by rw[rdO j hj];exact hg) (k3 i ev hevi hD) k1 ?_).mono ?_
 . intro t sv ht;have ht:(bif bZ t ev.rd then fS Tr 0 (evs.take i) gS t else none)=some sv:=ht;cases hm:bZ t ev.rd with
   |false=>rw[hm]at ht;cases ht
   |true=>rw[hm]at ht;exact k2 t sv (by rw[rdS t hm];exact ht)
 . rintro v w' ⟨ν',g1,g2,g3,g4⟩;have hle:=g1.le (k3 i ev hevi hD);refine⟨ν',by rw[eO];exact g2,?_,fun j q hq hDj k hk1 hk2=>?_,fun k hk=>?_,fun k hk=>?_⟩
   . rw[eO,eS];exact g4 _ (k2.mono hle g3)
   . simp only[Gj]at hDj;have hne:j≠i:=by rintro rfl;rw[qR]at hDj;cases hDj.2
     rw[g1 k,k3 j q hq hDj.1 k hk1 hk2];rcases cw j i with hlt|hge
     . have:=(zM hce j i _ _ (en_at hq) (en_at hevi) hlt).1;have this:0+(q.nx+q.ef.n)<=0+ev.nx:=this;exact .inl (by omega)
     . have:=(zM hce i j _ _ (en_at hevi) (en_at hq) (by omega)).1;have this:0+(ev.nx+ev.ef.n)<=0+q.nx:=this;exact .inr (by omega)
   . have:=(rng hevi).2;rw[g1 k (.inr (by omega))];exact k4 k hk
   . have:=(rng hevi).1;rw[g1 k (.inl (by omega))];exact k5 k hk
theorem Lp{evs:List Ev}:∀{j:Nat} {f:OF},fO (fun _=>false) j evs f=f:=by
 induction evs with
 |nil=>intro j f;rfl
 |cons a r ih=>intro j f;exact ih
theorem fS_no{evs:List Ev}:∀{j:Nat} {f:SF},fS (fun _=>false) j evs f=f:=by
 induction evs with
 |nil=>intro j f;rfl
 |cons a r ih=>intro j f;exact ih
theorem dr{id:Nat}{L:SS}(hm:P.follows .mixedOrders=true)(h:GD tb F L.nx all k vz [] all [] L)(hd:l5 F.n all=true:=by rfl):jm tb F (.code (.region id all.toArray true)::k) L:=by
 obtain⟨evs,L',hev,hc,hG,hsl,hob⟩:=GD_ok (all:=all) (gS:=aQ L.bQ) (gO:=aQ L.bC) vz [] all [] L [] [] (by rfl:all=[]++all) rfl ⟨rfl,fun i ev o h=>by simp at h⟩ rfl rfl h;have hc':=hc;simp only[pU,fG]at hc';obtain⟨⟨⟨⟨⟨_,hn⟩,hb⟩,_⟩,hrg⟩,hce⟩:=hc';have hn:=ku hn;refine⟨fun e w hs=>?_⟩;obtain⟨ν,g1,g2,g3,g4,g5⟩:=hs;refine cv.drawJ (J:=JD F (aQ L.bQ) (aQ L.bC) evs L'.nx) hm hd hb (fun w1 h1 h2 h3 h4=>?_) (fun D i o e w ho hD hdd hcl hJ=>Oo g2 hev hc ho hD hdd hcl hJ) (fun D e' w' hD hJ=>?_)
 . obtain⟨q1,q2⟩:=g4.same h1 h2 h3 h4;refine⟨ν,by rw[Lp];exact q1,by rw[Lp,fS_no,q2];exact g5,fun i ev hi _ k hk _=>g1 k ?_,fun k hk=>g1 k (by omega),g3⟩;have:=tp.1 hrg ev.en (dL.2 ⟨ev,ni hi,rfl⟩);simp only[fG]at this;have:=ku this.1;have:L.nx<=0+ev.nx:=this;omega
 . obtain⟨ν',q1,q2,q3,q4,q5⟩:=hJ;have e1:fO D 0 evs (aQ L.bC)=aQ L'.bC:=by
    rw[hob];funext x;refine sW fun i ev hi=>.inl ?_;rw[eK];exact hD i (by rw[<-hev.1];exact(dU.1 hi).1)
   have e2:fS D 0 evs (aQ L.bQ)=aQ L'.bQ:=by
    rw[hsl];funext x;refine sa fun i ev hi=>.inl ?_;rw[eK];exact hD i (by rw[<-hev.1];exact(dU.1 hi).1)
   rw[e1]at q1 q2;rw[e2]at q2;exact(Gs.ok hG).ok e' w' ⟨ν',q4,by omega,q5,q1,q2⟩
end
open Go Go.RowKit Go.X
variable [eT]
def iP:List Nat->Nat->Option Nat
 |[],_=>none
 |x::r,i=>bif Nat.beq x i then some 0 else match iP r i with
  |some j=>some (j+1)
  |none=>none
theorem lj:∀{l:List Nat} {i j:Nat},iP l i=some j->l[j]?=some i
 |[],_,_,h=>by cases h
 |x::r,i,j,h=>by
  unfold iP at h;cases hb:Nat.beq x i with
  |true=>rw[hb]at h;cases h;rw[dH hb];rfl
  |false=>
   rw[hb]at h;simp only[cond_false]at h;split at h
   . rename_i j' hj;cases h;simpa using lj hj
   . cases h
theorem C5:∀{l:List Nat} {i:Nat},iP l i=none->i∉l
 |[],_,_,h=>by cases h
 |x::r,i,h,hm=>by
  unfold iP at h;cases hb:Nat.beq x i with
  |true=>rw[hb]at h;cases h
  |false=>
   rw[hb]at h;simp only[cond_false]at h;rcases dT.1 hm with h1|h1
   . subst h1;simp at hb
   . split at h
     . cases h
     . rename_i hj;exact C5 hj h1
def wk:Bool->Bool->Bool
 |true,κ=>κ
 |false,_=>false
def cvL(bC:OF)(ren:List Nat):Lf->Lf->Option Lf
 |.own i,.ro _ κ' _=>match iP ren i with
  |some _=>none
  |none=>match bC i with
   |some (.row r κ xs)=>some (.ro r (wk κ κ') xs)
   |_=>none
 |.own i,.ap _ _ κ' _=>match iP ren i with
  |some j=>match bC i with
   |some (.row r κ xs)=>some (.ap j r (wk κ κ') xs)
   |_=>none
  |none=>none
 |.own i,_=>match iP ren i with
  |some j=>some (.own j)
  |none=>none
 |.ap i r κ xs,.ap _ _ κ' _=>match iP ren i with
  |some j=>some (.ap j r (wk κ κ') xs)
  |none=>none
 |.ptr i o,_=>match iP ren i with
  |some j=>some (.ptr j o)
  |none=>none
 |.mp i,_=>match iP ren i with
  |some j=>some (.mp j)
  |none=>none
 |.sg i sz lo hi,_=>match iP ren i with
  |some j=>some (.sg j sz lo hi)
  |none=>none
 |.pd q,_=>some (.pd q)
 |.ro r κ xs,.ro _ κ' _=>some (.ro r (wk κ κ') xs)
 |.cp r κ xs,.ro _ κ' _=>some (.ro r (wk κ κ') xs)
 |.cp r κ xs,.cp _ κ' _=>some (.cp r (wk κ κ') xs)
 |.v (.slice none 0 0),.ro r κ _=>some (.ro r κ [])
 |.v x,_=>some (.v x)
 |_,_=>none
def tK(bC:OF)(ren:List Nat):List Lf->List Lf->Option (List Lf)
 |[],[]=>some []
 |a::r,b::s=>match cvL bC ren a b with
  |some x=>match tK bC ren r s with
   |some y=>some (x::y)
   |none=>none
  |none=>none
 |_,_=>none
def cvS(bC:OF)(ren:List Nat):S1->S1->Option S1
 |.lf a,.lf b=>match cvL bC ren a b with
  |some x=>some (.lf x)
  |none=>none
 |.agg a,.agg b=>match tK bC ren a b with
  |some x=>some (.agg x)
  |none=>none
 |_,_=>none
def wK(bC:OF)(ren:List Nat):List S1->List S1->Option (List S1)
 |[],[]=>some []
 |a::r,b::s=>match cvS bC ren a b with
  |some x=>match wK bC ren r s with
   |some y=>some (x::y)
   |none=>none
  |none=>none
 |_,_=>none
def cvV(bC:OF)(ren:List Nat):Sv->Sv->Option Sv
 |.s a,.s b=>match cvS bC ren a b with
  |some x=>some (.s x)
  |none=>none
 |.fp a,.fp b=>match wK bC ren a b with
  |some x=>some (.fp x)
  |none=>none
 |.pr κ a o,.pr κ' b _=>match tK bC ren a b with
  |some x=>some (.pr (wk κ κ') x o)
  |none=>none
 |_,_=>none
def ub(bC:OF)(ren:List Nat)(k:Nat):Ob->Ob->Option Ob
 |.row r κ xs,.row _ κ' _=>some (.row r (wk κ κ') xs)
 |.row r κ xs,.aG _ κ' _=>some (.aG r (wk κ κ') xs)
 |.aG r κ xs,.aG _ κ' _=>some (.aG r (wk κ κ') xs)
 |.box a,.box b=>match tK bC ren a b with
  |some x=>some (.box x)
  |none=>none
 |.map dk kf vf m,.map _ _ _ _=>some (.map dk kf vf m)
 |.deep j D xs [],.deep _ _ _ _=>match ren[k]?with
  |some i=>match Nat.beq i j with
   |true=>some (.deep k D xs [])
   |false=>none
  |none=>none
 |_,_=>none
def kU(bC:OF)(ren:List Nat):List (Nat×Option Ob)->Option (List (Nat×Option Ob))
 |[]=>some []
 |(k,some b)::r=>match ren[k]?with
  |some i=>match bC i with
   |some a=>match ub bC ren k a b with
    |some x=>match kU bC ren r with
     |some y=>some ((k,some x)::y)
     |none=>none
    |none=>none
   |none=>none
  |none=>none
 |(k,none)::r=>match kU bC ren r with
  |some y=>some ((k,none)::y)
  |none=>none
def nJ(L:SS)(ren:List Nat):List (Nat×Option Sv)->Option (List (Nat×Option Sv))
 |[]=>some []
 |(t,some b)::r=>match aQ L.bQ t with
  |some a=>match cvV (aQ L.bC) ren a b with
   |some x=>match nJ L ren r with
    |some y=>some ((t,some x)::y)
    |none=>none
   |none=>none
  |none=>none
 |(_,none)::_=>none
def dY(ν:Nu)(ren:List Nat):Nu:=⟨fun k=>(ren[k]?).bind ν.f,ν.tl,ν.tc⟩
def ei:Nat->List Ob->List (Nat×Option Ob)
 |_,[]=>[]
 |i,x::r=>(i,some x)::ei (i+1) r
def aV(n:Nat)(cS:List Ob)(bQ:List (Nat×Option Sv)):SS:=⟨n,ei 0 cS,bQ⟩
section
variable {ν:Nu} {ren:List Nat} {bC:OF} {H H':Bool->Hp}
theorem jZ{j i:Nat}{x:Option Nat×Nat×Nat}(h:ren[j]?=some i)(hx:ν i=some x):dY ν ren j=some x:=by
 show(ren[j]?).bind ν.f=some x;rw[h];exact hx
theorem p7{k:Nat}:dY ν ren k=(ren[k]?).bind ν.f:=rfl
theorem vv{k i:Nat}(h:ren[k]?=some i):du (dY ν ren) k=du ν i:=by unfold du;rw[p7,h];rfl
theorem mE(hw:Le (H' true) (H' false))(hH:∀κ,Le (H κ) (H' κ)):∀κ κ',Le (H κ) (H' (wk κ κ'))
 |true,true=>hH true
 |true,false=>Le.trans (hH true) hw
 |false,_=>hH false
structure Sn (ν:Nu)(H H':Bool->Hp)(bC:OF)(ren:List Nat):Prop where
 le:∀κ,Le (H κ) (H' κ)
 wk:Le (H' true) (H' false)
 ln:∀(i:Nat) (α:Type) (r:bP α) (κ:Bool) (xs:List α) (b:Option Nat) (c n:Nat),bC i=some (.row r κ xs)->ν i=some (b,c,n)->n=xs.length/\(b=none->xs=[])
 fz:∀(i:Nat) (α:Type) (r:bP α) (κ:Bool) (xs:List α) (a:Value),iP ren i=none->bC i=some (.row r κ xs)->(Lf.own i).R ν H a->Rs r (H' κ) a xs
theorem Jc(hs:Sn ν H H' bC ren){x y l:Lf}{a:Value}(h:cvL bC ren x y=some l)(hr:x.R ν H a):l.R (dY ν ren) H' a:=by
 unfold cvL at h;split at h
 . split at h
   . cases h
   . rename_i hp;split at h
     . rename_i ho;cases h;exact Rs.mono (hs.fz _ _ _ _ _ _ hp ho hr) (mE hs.wk (fun _=>Le.refl _) _ _)
     . cases h
 . split at h
   . rename_i j hj;split at h
     . rename_i ho;cases h;obtain⟨b,c,n,h1,h2⟩:=hr;obtain⟨e1,e2⟩:=hs.ln _ _ _ _ _ _ _ _ ho h1;exact⟨b,c,n,jZ (lj hj) h1,.inl ⟨e1,e2,h2⟩⟩
     . cases h
   . cases h
 . split at h
   . rename_i j hj;cases h;obtain⟨b,c,n,h1,h2⟩:=hr;exact⟨b,c,n,jZ (lj hj) h1,h2⟩
   . cases h
 . split at h
   . rename_i j hj;cases h;obtain⟨b,c,n,h1,h2⟩:=hr;exact⟨b,c,n,jZ (lj hj) h1,h2.imp id fun g=>⟨g.1,Rs.mono g.2.1 (mE hs.wk hs.le _ _),g.2.2⟩⟩
   . cases h
 . split at h
   . rename_i j hj;cases h;obtain⟨b,c,h1,h2⟩:=hr;exact⟨b,c,jZ (lj hj) h1,h2⟩
   . cases h
 . split at h
   . rename_i j hj;cases h;obtain⟨b,c,h1,h2⟩:=hr;exact⟨b,c,jZ (lj hj) h1,h2⟩
   . cases h
 . split at h
   . rename_i j hj;cases h;obtain⟨b,c,m,k,cp,h1,h2⟩:=hr;exact⟨b,c,m,k,cp,jZ (lj hj) h1,h2⟩
   . cases h
 . cases h;exact Pd.mono _ _ _ _ hs.le hr
 . cases h;exact Rs.mono hr (mE hs.wk hs.le _ _)
 . cases h;exact Rs.mono hr.1 (mE hs.wk hs.le _ _)
 . cases h;exact⟨Rs.mono hr.1 (mE hs.wk hs.le _ _),hr.2⟩
 . cases h;obtain⟨h1,_⟩:=hr;rw[h1];exact Rs.nil
 . cases h;exact hr
 . cases h
theorem yP(hs:Sn ν H H' bC ren):∀{x y l:List Lf} {a:List Value},tK bC ren x y=some l->cR ν H x a->cR (dY ν ren) H' l a
 |[],[],l,a,h,hr=>by cases h;exact hr
 |x::r,y::s,l,a,h,hr=>by
  simp only[tK]at h;split at h
  . rename_i u hu;split at h
    . rename_i z hz;cases h;obtain⟨a,az,h1,h2,h3⟩:=hr;exact⟨a,az,h1,Jc hs hu h2,yP hs hz h3⟩
    . cases h
  . cases h
 |[],_::_,_,_,h,_=>by cases h
 |_::_,[],_,_,h,_=>by cases h
theorem Jj(hs:Sn ν H H' bC ren){x y l:S1}{a:Value}(h:cvS bC ren x y=some l)(hr:x.R ν H a):l.R (dY ν ren) H' a:=by
 unfold cvS at h;split at h
 . split at h
   . rename_i u hu;cases h;exact Jc hs hu hr
   . cases h
 . split at h
   . rename_i u hu;cases h;obtain⟨vs,h1,h2⟩:=hr;exact⟨vs,h1,yP hs hu h2⟩
   . cases h
 . cases h
theorem Cq(hs:Sn ν H H' bC ren):∀{x y l:List S1} {a:List Value},wK bC ren x y=some l->dO ν H x a->dO (dY ν ren) H' l a
 |[],[],l,a,h,hr=>by cases h;exact hr
 |x::r,y::s,l,a,h,hr=>by
  simp only[wK]at h;split at h
  . rename_i u hu;split at h
    . rename_i z hz;cases h;obtain⟨a,az,h1,h2,h3⟩:=hr;exact⟨a,az,h1,Jj hs hu h2,Cq hs hz h3⟩
    . cases h
  . cases h
 |[],_::_,_,_,h,_=>by cases h
 |_::_,[],_,_,h,_=>by cases h
theorem R5(hs:Sn ν H H' bC ren){x y l:Sv}{a:Value}(h:cvV bC ren x y=some l)(hr:x.R ν H a):l.R (dY ν ren) H' a:=by
 unfold cvV at h;split at h
 . split at h
   . rename_i u hu;cases h;exact Jj hs hu hr
   . cases h
 . split at h
   . rename_i u hu;cases h;obtain⟨vs,h1,h2⟩:=hr;exact⟨vs,h1,Cq hs hu h2⟩
   . cases h
 . split at h
   . rename_i u hu;cases h;obtain⟨b,o,vs,h1,h2,h3⟩:=hr;exact⟨b,o,vs,h1,h2.mono (mE hs.wk hs.le _ _),yP hs hu h3⟩
   . cases h
 . cases h
theorem Rq(hs:Sn ν H H' bC ren){q:Nat}{x y l:Ob}{c n:Nat}{k:cU}(h:ub bC ren q x y=some l)(hr:x.R ν H c n k):l.R (dY ν ren) H' c n k:=by
 unfold ub at h;split at h
 . cases h;obtain⟨e1,e0,cs,sp,e2,e3,e4⟩:=hr;exact⟨e1,e0,cs,sp,e2,e3.mono (mE hs.wk hs.le _ _),e4⟩
 . cases h;obtain⟨e1,e0,cs,sp,e2,e3,e4⟩:=hr;exact⟨e0,.inl ⟨e1,cs,sp,e2,e3.mono (mE hs.wk hs.le _ _),e4⟩⟩
 . cases h;obtain⟨e0,hr⟩:=hr;exact⟨e0,hr.imp (fun⟨e1,cs,sp,e2,e3,e4⟩=>⟨e1,cs,sp,e2,e3.mono (mE hs.wk hs.le _ _),e4⟩) id⟩
 . split at h
   . rename_i u hu;cases h;obtain⟨vs,e1,e2⟩:=hr;exact⟨vs,e1,yP hs hu e2⟩
   . cases h
 . cases h;exact hr
 . split at h
   . rename_i i hi;split at h
     . rename_i hb;cases h;have e:=dH hb;subst e;obtain⟨h1,h2,t,c',n',cs,sp,FB,FC,h0,h3,h4,h5,h6,h7,h8,h9⟩:=hr;exact⟨h1,h2,t,c',n',cs,sp,FB,FC,jZ hi h0,h3,h4,h5,h6,h7,h8,fun h hh=>by cases hh⟩
     . cases h
   . cases h
 . cases h
theorem uV{k:Nat}{x y l:Ob}(h:ub bC ren k x y=some l):(l.tid=none↔x.tid=none)/\∀j,l.tid=some j->j=k:=by
 unfold ub at h;split at h
 . cases h;exact⟨np,fun j hj=>by cases hj⟩
 . cases h;exact⟨np,fun j hj=>by cases hj⟩
 . cases h;exact⟨np,fun j hj=>by cases hj⟩
 . split at h
   . cases h;exact⟨np,fun j hj=>by cases hj⟩
   . cases h
 . cases h;exact⟨np,fun j hj=>by cases hj⟩
 . split at h
   . split at h
     . cases h;exact⟨⟨fun h=>(by cases h),fun h=>(by cases h)⟩,fun j hj=>by cases hj;rfl⟩
     . cases h
   . cases h
 . cases h
theorem J7{x l:Ob}{k i:Nat}(hk:ren[k]?=some i)(ht:l.tid=none↔x.tid=none):gV (dY ν ren) k l=gV ν i x:=by
 unfold gV;rw[vv hk];cases hl:l.tid with
 |none=>rw[ht.1 hl]
 |some a=>cases hx:x.tid with
  |none=>rw[ht.2 hx]at hl;cases hl
  |some b=>rfl
theorem BF{x l:Ob}{k i b:Nat}(hk:ren[k]?=some i)(ht:l.tid=none↔x.tid=none):fN (dY ν ren) k l b↔fN ν i x b:=by
 unfold fN;rw[vv hk,J7 hk ht];exact np
theorem JT{L:SS}(hs:Sn ν H H' (aQ L.bC) ren){e:Env}(hS:di ν H (aQ L.bQ) e):∀{l l':List (Nat×Option Sv)},nJ L ren l=some l'->di (dY ν ren) H' (aQ l') e
 |[],_,h=>by cases h;intro t sv ht;cases ht
 |(t,some b)::r,_,h=>by
  simp only[nJ]at h;split at h
  . rename_i a ha;split at h
    . rename_i x hx;split at h
      . rename_i y hy;cases h;intro t' sv ht;have ht:(bif Nat.beq t' t then some x else aQ y t')=some sv:=ht;cases hb:Nat.beq t' t with
        |true=>rw[hb]at ht;cases ht;have:=dH hb;subst this;exact R5 hs hx (hS _ _ ha)
        |false=>rw[hb]at ht;exact JT hs hS hy t' sv ht
      . cases h
    . cases h
  . cases h
 |(_,none)::_,_,h=>by simp only[nJ]at h;cases h
theorem pZ:∀{l l':List (Nat×Option Ob)} {k:Nat} {ob:Ob},kU bC ren l=some l'->aQ l' k=some ob->∃i a b,ren[k]?=some i/\bC i=some a/\ub bC ren k a b=some ob
 |[],_,k,ob,h,hk=>by cases h;cases hk
 |(j,some b)::r,_,k,ob,h,hk=>by
  simp only[kU]at h;split at h
  . rename_i i hi;split at h
    . rename_i a ha;split at h
      . rename_i x hx;split at h
        . rename_i y hy;cases h;have hk:(bif Nat.beq k j then some x else aQ y k)=some ob:=hk;cases hb:Nat.beq k j with
          |true=>rw[hb]at hk;cases hk;have:=dH hb;subst this;exact⟨i,a,b,hi,ha,hx⟩
          |false=>rw[hb]at hk;exact pZ hy hk
        . cases h
      . cases h
    . cases h
  . cases h
 |(j,none)::r,_,k,ob,h,hk=>by
  simp only[kU]at h;split at h
  . rename_i y hy;cases h;have hk:(bif Nat.beq k j then none else aQ y k)=some ob:=hk;cases hb:Nat.beq k j with
    |true=>rw[hb]at hk;cases hk
    |false=>rw[hb]at hk;exact pZ hy hk
  . cases h
theorem yY:∀{l:List Nat} {p q i:Nat},fI l=true->l[p]?=some i->l[q]?=some i->p=q
 |[],p,_,_,_,h,_=>by simp at h
 |x::r,p,q,i,hn,hp,hq=>by
  simp only[fI,fG,Gt]at hn;have hx:∀{q:Nat},r[q]?=some x->False:=fun h=>by
   have:=iV.2 (ni h);rw[this]at hn;cases hn.1
  cases p with
  |zero=>cases q with
   |zero=>rfl
   |succ q=>simp at hp hq;subst hp;exact(hx hq).elim
  |succ p=>cases q with
   |zero=>simp at hp hq;subst hq;exact(hx hp).elim
   |succ q=>simp at hp hq;rw[yY hn.2 hp hq]
end
theorem cH.oX{X:Nat->Prop}{w0 w:World}{H0:Bool->Hp}{ν:Nu}{oF:OF}(hS:cH X w0 H0 ν oF w){ren:List Nat}{out out':List (Nat×Option Ob)}(h1:kU oF ren out=some out')(h2:fI ren=true):
 cH X w0 H0 (dY ν ren) (aQ out') w/\Sn ν (HF X w0 H0 ν oF w) (HF X w0 H0 (dY ν ren) (aQ out') w) oF ren:=by
 have ow:∀b,Ow (dY ν ren) (aQ out') b->∃i ob,oF i=some ob/\fN ν i ob b/\i∈ren:=by
  rintro b ⟨k,ob,g1,g2⟩;obtain⟨i,a,b',q1,q2,q3⟩:=pZ h1 g1;exact⟨i,a,q2,(BF q1 (uV q3).1).1 g2,ni q1⟩
 have le:∀κ,Le (HF X w0 H0 ν oF w κ) (HF X w0 H0 (dY ν ren) (aQ out') w κ):=by
  intro κ b o h;rcases rL h with⟨g1,g1',g2⟩|⟨g1,g2,g3⟩
  . rw[nY g1 g1'];exact g2
  . refine kY g1 (fun hw=>?_) g3;obtain⟨i,ob,q1,q2,_⟩:=ow b hw;exact g2 ⟨i,ob,q1,q2⟩
 have tf:Le (HF X w0 H0 (dY ν ren) (aQ out') w true) (HF X w0 H0 (dY ν ren) (aQ out') w false):=fun b o h=>by
  rcases rL h with⟨g1,g1',g2⟩|⟨g1,g2,g3⟩
  . rw[nY g1 g1'];exact hS.h0 b o g2
  . exact kY g1 g2 g3
 have sn:Sn ν (HF X w0 H0 ν oF w) (HF X w0 H0 (dY ν ren) (aQ out') w) oF ren:=by
  refine⟨le,tf,?_,?_⟩
  . intro i α r κ xs b c n ho hb;obtain⟨b',c',n',k,q2,q3,e1,e0,cs,sp,rfl,e3,e4⟩:=hS.cS i _ ho;rw[hb]at q2;cases q2;refine⟨e1,fun hn=>?_⟩;subst hn;have hq:Rs r (HF X w0 H0 ν oF w κ) (ff none 0 0 0) xs:=qv q3 e3 e0;rcases hq with⟨_,h⟩|⟨_,_,_,hv,_⟩
    . exact h
    . cases hv
  rintro i α r κ xs a hp ho ⟨b,c,n,q1,rfl⟩;obtain⟨b',c',n',k,q2,q3,e1,e0,cs,sp,rfl,e3,e4⟩:=hS.cS i _ ho;rw[q1]at q2;cases q2;cases b with
  |none=>exact qv q3 e3 e0
  |some b=>
   have hb:X b\/w0.heap.size<=b:=hS.fresh i _ b ho (.inl (eE q1));have hn:¬Ow (dY ν ren) (aQ out') b:=by
    intro hw;obtain⟨j,ob,g1,g2,g3⟩:=ow b hw;have:=hS.gB i j _ ob b ho g1 (.inl (eE q1)) g2;subst this;exact C5 hp g3
   exact wm (oH q3 fun q hq=>kY hb hn (vd q3 hq)) (e3.mono (le κ)) e0 rfl e1 e4
 refine⟨⟨hS.os,hS.tape,hS.output,hS.size,hS.keep,hS.h0,hS.nc,hS.pv,fun k ob h=>?_,fun k ob b h hb=>?_,fun k k' o o' b h h' hb hb'=>?_,fun k ob h=>?_⟩,sn⟩
 . obtain⟨i,a,b,q1,q2,q3⟩:=pZ h1 h;obtain⟨b',c,n,kk,g1,g2,g3⟩:=hS.cS i a q2;exact⟨b',c,n,kk,jZ q1 g1,g2,Rq sn q3 g3⟩
 . obtain⟨i,a,b',q1,q2,q3⟩:=pZ h1 h;exact hS.fresh i a b q2 ((BF q1 (uV q3).1).1 hb)
 . obtain⟨i,a,b1,q1,q2,q3⟩:=pZ h1 h;obtain⟨i',a',b1',q1',q2',q3'⟩:=pZ h1 h';have:=hS.gB i i' a a' b q2 q2' ((BF q1 (uV q3).1).1 hb) ((BF q1' (uV q3').1).1 hb');subst this;exact yY h2 q1 q1'
 . obtain⟨i,a,b1,q1,q2,q3⟩:=pZ h1 h;obtain⟨p1,p2,p3⟩:=hS.parts i a q2;have e:=J7 (ν:=ν) q1 (uV q3).1;exact⟨fun t ht=>p1 t (by rw[<-e];exact ht),fun b t hb ht=>p2 b t (by rw[<-vv q1];exact hb) (by rw[<-e];exact ht),(uV q3).2⟩
def n9:Nat->List Nat->Bool
 |0,_=>true
 |m+1,ren=>(match ren[m]?with
  |some i=>Nat.beq i m
  |none=>false)&&n9 m ren
theorem yT:∀{m:Nat} {ren:List Nat} {k:Nat},n9 m ren=true->k<m->ren[k]?=some k
 |0,_,k,_,h=>by omega
 |m+1,ren,k,h,hk=>by
  simp only[n9,fG]at h;by_cases hm:k=m
  . subst hm;cases hr:ren[k]?with
    |none=>rw[hr]at h;cases h.1
    |some i=>rw[hr]at h;rw[dH h.1]
  . exact yT h.2 (by omega)
theorem St.oX{F:Fx}{L:SS}{e:Env}{w:World}(h:St F L e w)(ren:List Nat){cS:List (Nat×Option Ob)}{bQ:List (Nat×Option Sv)}(h1:kU (aQ L.bC) ren cS=some cS)(h2:fI ren=true)(h3:nJ L ren bQ=some bQ)(h4:n9 F.m ren=true):St F ⟨ren.length,cS,bQ⟩ e w:=by
 obtain⟨ν,g1,g2,g3,g4,g5⟩:=h;obtain⟨k1,k2⟩:=g4.oX h1 h2;refine⟨dY ν ren,fun k hk=>?_,?_,fun k hk=>?_,k1,JT k2 g5 h3⟩
 . rw[p7,fP hk];rfl
 . rcases cw ren.length F.m with h|h
   . have:=yT h4 (k:=ren.length) h;rw[fP (bK _)]at this;cases this
   . exact h
 . rw[p7,yT h4 hk];exact g3 k hk
open Go Go.RowKit Go.X
variable [eT]
def vY(X:Nat->Prop)(w0:World)(H0:Bool->Hp)(ν0:Nu)(m:Nat)(out:List (Nat×Option Ob))(rs:List S1)(vs:List Value)(w:World):Prop:= ∃ν,(∀k,k<m->ν k=ν0 k)/\cH X w0 H0 ν (aQ out) w/\dO ν (HF X w0 H0 ν (aQ out) w) rs vs
def Cx(P:Program)(f:FuncId)(az:List S1)(ib:List Ob)(out:List (Nat×Option Ob))(rs:List S1):Prop:= Enters P f/\∀(X:Nat->Prop) (w:World) (H:Bool->Hp) (ν:Nu) (l:List Value),(∀k,ib.length<=k->ν k=none)->cH X w H ν (aQ (ei 0 ib)) w->dO ν (HF X w H ν (aQ (ei 0 ib)) w) az l-> Calls P f l.toArray w (fun e w'=>∃vs,e=.returned (jh vs)/\vY X w H ν ib.length out rs vs w')
abbrev Cn(P:Program)(f:FuncId)(az:List S1)(ob:List Ob)(rs:List S1):Prop:=Cx P f az [] (ei 0 ob) rs
def QR(P:Program)(rl:List ResultVar)(X:Nat->Prop)(w0:World)(H0:Bool->Hp)(ν0:Nu)(m:Nat)(out:List (Nat×Option Ob))(rs:List S1):Env->World->Prop:=fun e w=>∃vs,ry P e w rl vs/\vY X w0 H0 ν0 m out rs vs w
def oY:Nat->List S1->List (Nat×Option Sv)
 |_,[]=>[]
 |i,a::r=>(i,some (.s a))::oY (i+1) r
theorem A2{ν:Nu}{H:Bool->Hp}{e:Env}:∀{az:List S1} {vs:List Value} (j:Nat),dO ν H az vs->(∀i v,vs[i]?=some v->e (j+i)=v)->di ν H (aQ (oY j az)) e
 |[],_,j,_,_=>fun t sv ht=>by cases ht
 |a::r,_,j,⟨v,vs,h1,h2,h3⟩,he=>fun t sv ht=>by
  subst h1;have ht:(bif Nat.beq t j then some (Sv.s a)else aQ (oY (j+1) r) t)=some sv:=ht;cases hb:Nat.beq t j with
  |true=>
   rw[hb]at ht;cases ht;have:=dH hb;subst this;have:=he 0 v rfl;rw[nj]at this;rw[this];exact h2
  |false=>
   rw[hb]at ht;exact A2 (j+1) h3 (fun i v' hi=>by rw[show j+1+i=j+(i+1) by omega];exact he (i+1) v' (by simpa using hi)) t sv ht
theorem fn{P:Program}(tb:List (dG P)){f:FuncId}{fn:Func}{c:Code}{rl:List ResultVar}{n:Nat}{az rs:List S1}{ib:List Ob}{out:List (Nat×Option Ob)}(en:Enters P f)(hf:P.funcs[f]?=some fn)
 {m:Nat}(h:∀X w H ν,Gs tb ⟨n,QR P rl X w H ν m out rs,X,w,H,m,ν⟩ [.code c] ⟨m,ei 0 ib,oY 0 az⟩)(hm:ib.length=m:=by rfl)(hb:fn.body=some c:=by rfl)(hn:fn.ntmps=n:=by rfl)(hr:fn.results=rl.toArray:=by rfl)(hl:Nat.ble az.length n=true:=by rfl):Cx P f az ib out rs:=by
 subst hm;refine⟨en,fun X w H ν l hν hS hl'=>?_⟩;refine Jg hf hb hn hr (by rw[hl'.length];exact ku hl) ?_;have h0:St ⟨n,QR P rl X w H ν ib.length out rs,X,w,H,ib.length,ν⟩ ⟨ib.length,ei 0 ib,oY 0 az⟩ (kE l) w:=⟨ν,hν,bK _,fun _ _=>rfl,hS,A2 0 hl' (fun i v hi=>by rw[eK];simp[kE,hi])⟩;refine((Gs.ok (h X w H ν)).ok _ _ h0).mono ?_;rintro e w' ⟨vs,h1,h2⟩;exact⟨vs,h1,vs,rfl,h2⟩
def sy{P:Program}(tb:List (dG P))(L:SS):List ResultVar->Option (List S1)
 |[]=>some []
 |.tmp t::r=>match aQ L.bQ t with
  |some (.s s)=>match sy tb L r with
   |some y=>some (s::y)
   |none=>none
  |_=>none
 |.cell a t::r=>match aQ L.bQ a with
  |some (.s (.lf (.ptr j 0)))=>match aQ L.bC j with
   |some (.box l)=>match cC tb t with
    |some T=>match iv T.d with
     |true=>match Nat.beq l.length T.sz with
      |true=>match sy tb L r with
       |some y=>some (.agg l::y)
       |none=>none
      |false=>none
     |false=>match l[0]?with
      |some x=>match sy tb L r with
       |some y=>some (.lf x::y)
       |none=>none
      |none=>none
    |none=>none
   |_=>none
  |_=>none
section
variable {P:Program} {tb:List (dG P)} {F:Fx} {all r:List Oper} {k:List It} {L:SS} {n:Nat}
theorem zQ{ν:Nu}{e:Env}{w:World}{H:Bool->Hp}(hO:∀i ob,aQ L.bC i=some ob->∃b c n k,ν i=some (b,c,n)/\dC w b k/\ob.R ν H c n k)(hS:di ν H (aQ L.bQ) e):∀{rl:List ResultVar} {bU:List S1},sy tb L rl=some bU->∃vs,ry P e w rl vs/\dO ν H bU vs
 |[],_,h=>by cases h;exact⟨[],trivial,rfl⟩
 |.tmp t::r,_,h=>by
  simp only[sy]at h;split at h
  . rename_i s hs;split at h
    . rename_i y hy;cases h;obtain⟨vs,h1,h2⟩:=zQ hO hS hy;exact⟨e t::vs,⟨rfl,h1⟩,_,_,rfl,hS _ _ hs,h2⟩
    . cases h
  . cases h
 |.cell a t::r,_,h=>by
  simp only[sy]at h;split at h
  . rename_i j hs;split at h
    . rename_i l ho;split at h
      . rename_i T hT;obtain⟨b,vs,g1,hc,g4⟩:=Jt hO (hS _ _ hs) ho;split at h
        . rename_i hg;split at h
          . rename_i hb;split at h
            . rename_i y hy;cases h;obtain⟨us,h1,h2⟩:=zQ hO hS hy;exact⟨.agg vs.toArray::us,⟨⟨_,g1,Ui (gk hT) hg (fQ hT) hc (by rw[g4.length];exact dH hb)⟩,h1⟩,_,_,rfl,⟨vs,rfl,g4⟩,h2⟩
            . cases h
          . cases h
        . rename_i hg;split at h
          . rename_i x hx;split at h
            . rename_i y hy;cases h;obtain⟨us,h1,h2⟩:=zQ hO hS hy;obtain⟨v,q1,q2⟩:=g4.get hx;exact⟨v::us,⟨⟨_,g1,TW (gk hT) hg hc q1⟩,h1⟩,_,_,rfl,q2,h2⟩
            . cases h
          . cases h
      . cases h
    . cases h
  . cases h
theorem rt{rl:List ResultVar}{bU rs:List S1}{out:List (Nat×Option Ob)}{X:Nat->Prop}{w0:World}{H0:Bool->Hp}{m:Nat}{ν0:Nu}(ren:List Nat)(h0:sy tb L rl=some bU:=by rfl)(h1:kU (aQ L.bC) ren out=some out:=by rfl)(h2:fI ren=true:=by rfl)(h3:wK (aQ L.bC) ren bU rs=some rs:=by rfl)(h4:n9 m ren=true:=by rfl):
 uO tb ⟨n,QR P rl X w0 H0 ν0 m out rs,X,w0,H0,m,ν0⟩ L:=by
 constructor;rintro e w ⟨ν,g1,g2,g3,g4,g5⟩;obtain⟨vs,q1,q2⟩:=zQ g4.cS g5 h0;obtain⟨k1,k2⟩:=g4.oX h1 h2;refine⟨vs,q1,dY ν ren,fun k hk=>?_,k1,Cq k2 h3 q2⟩;rw[p7,yT h4 hk];exact g3 k hk
theorem bj{π σ:Type}{inj:π->σ}{Lj:π->SS}{s:σ}(x:π)(ren:List Nat){cS:List (Nat×Option Ob)}{bQ:List (Nat×Option Sv)}(hx:inj x=s:=by rfl)(hI:Lj x=⟨ren.length,cS,bQ⟩:=by rfl)(h1:kU (aQ L.bC) ren cS=some cS:=by rfl)(h2:fI ren=true:=by rfl)(h3:nJ L ren bQ=some bQ:=by rfl)(h4:n9 F.m ren=true:=by rfl):
 tO tb F (fun e w=>∃p,inj p=s/\St F (Lj p) e w) L:=⟨fun _ _ h=>⟨x,hx,by rw[hI];exact h.oX ren h1 h2 h3 h4⟩⟩
theorem bl{σ ρ:Type}{I:σ->SS}{x:σ}(ren:List Nat){cS:List (Nat×Option Ob)}{bQ:List (Nat×Option Sv)}(hI:I x=⟨ren.length,cS,bQ⟩:=by rfl)(h1:kU (aQ L.bC) ren cS=some cS:=by rfl)(h2:fI ren=true:=by rfl)(h3:nJ L ren bQ=some bQ:=by rfl)(h4:n9 F.m ren=true:=by rfl):
 tO tb F (fun e w=>∃s',(aK.next x:aK σ ρ)=.next s'/\St F (I s') e w) L:=⟨fun _ _ h=>⟨x,rfl,by rw[hI];exact h.oX ren h1 h2 h3 h4⟩⟩
theorem sn{kk:List It}(L':SS)(ren:List Nat)(h:jm tb F kk L'){cS:List (Nat×Option Ob)}{bQ:List (Nat×Option Sv)}(hI:L'=⟨ren.length,cS,bQ⟩:=by rfl)(h1:kU (aQ L.bC) ren cS=some cS:=by rfl)(h2:fI ren=true:=by rfl)(h3:nJ L ren bQ=some bQ:=by rfl)(h4:n9 F.m ren=true:=by rfl):jm tb F kk L:=⟨fun e w hs=>h.ok e w (by rw[hI];exact hs.oX ren h1 h2 h3 h4)⟩
theorem jn{π σ β:Type}{m:Option σ}{g:σ->Option β}{res:β}{c:Code}(inj:π->σ)(Lj:π->SS)(h:m.bind g=some res)
 (h1:∀s,m=some s->g s=some res->Gs tb F (.code c::.back (fun e w=>∃p,inj p=s/\St F (Lj p) e w)::k) L)(h2:∀p,g (inj p)=some res->Gs tb F k (Lj p)):jm tb F (.code c::k) L:=by
 obtain⟨s,q1,q2⟩:=bind_some h;refine⟨fun e w hs=>cv.join _ ((Gs.ok (h1 s q1 q2)).ok e w hs) ?_⟩;rintro e w ⟨p,rfl,hp⟩;exact(Gs.ok (h2 p q2)).ok e w hp
theorem bk{c:Code}{id:Nat}(h:Gs tb F (.code c::.du id::k) L):jm tb F (.code (.block id c)::k) L:=⟨fun e w hs=>cv.block ((Gs.ok h).ok e w hs)⟩
theorem lp{σ ρ:Type}{body:σ->Option (aK σ ρ)}{N:Nat}{s0:σ}{r0:ρ}{c:Code}(I:σ->SS)(hl:bH body N s0=some r0)(ren:List Nat)
 (rd:∀s o,body s=some o->(∀r',o=.done r'->r'=r0)->Gs tb F (.code c::.back (fun e w=>∃s',o=.next s'/\St F (I s') e w)::k) (I s))
 {cS:List (Nat×Option Ob)}{bQ:List (Nat×Option Sv)}(hI:I s0=⟨ren.length,cS,bQ⟩:=by rfl)(h1:kU (aQ L.bC) ren cS=some cS:=by rfl)(h2:fI ren=true:=by rfl)(h3:nJ L ren bQ=some bQ:=by rfl)(h4:n9 F.m ren=true:=by rfl):jm tb F (.code (.loop c)::k) L:=⟨fun e w hs=>
 cv.bH hl (fun s e w=>St F (I s) e w) (by show St _ (I s0) _ _;rw[hI];exact hs.oX ren h1 h2 h3 h4) fun s o e w hs hb hd=>(Gs.ok (rd s o hb hd)).ok e w hs⟩
theorem dbt{b:Bool}:b=decide (b=true):=by cases b<;>rfl
theorem dnt{p:Prop}[Decidable p]:(!decide p)=decide (¬p):=by by_cases h:p<;>simp[h]
def SS.kn(L:SS)(c:Operand)(b:Bool):SS:=match c with
 |.tmp t=>L.set t (eF (.bool b))
 |_=>L
theorem St.kn{c:Operand}{b b':Bool}{e:Env}{w:World}(h:St F L e w)(hc:lv (bN L c)=some (.bool b))(hb:b=b'):St F (L.kn c b') e w:=by
 cases c with
 |tmp t=>
  have:aQ L.bQ t=some (.s (.lf (.v (.bool b)))):=by
   simp only[bN]at hc;unfold lv at hc;split at hc
   . rename_i hx;cases hc;exact hx
   . cases hc
  exact h.known this (by rw[hb])
 |_=>exact h
theorem St.lv{c:Operand}{v:Value}{e:Env}{w:World}(h:St F L e w)(hc:lv (bN L c)=some v):ev e c=v:=by
 obtain⟨ν,_,_,_,_,h4⟩:=h;exact(eJ h4 hc).1
theorem cd{β:Type}{p:Prop}[Decidable p]{A B:Option β}{res:β}{c:Operand}{x y:Code}{b:Bool}(h:(if p then A else B)=some res)(ht:p->A=some res->Gs tb F (.code x::k) (L.kn c true))(hf:¬p->B=some res->Gs tb F (.code y::k) (L.kn c false))
 (hc:lv (bN L c)=some (.bool b):=by rfl)(hb:b=decide p:=by first|rfl|exact dbt|exact dnt|simp):jm tb F (.code (.cond c x y)::k) L:=by
 subst hb;refine⟨fun e w hs=>?_⟩;refine cv.NF p (hs.lv hc) (fun hp=>?_) (fun hp=>?_)
 . exact(Gs.ok (ht hp (Mj hp h))).ok e w (hs.kn hc (by simp[hp]))
 . exact(Gs.ok (hf hp (Kw hp h))).ok e w (hs.kn hc (by simp[hp]))
theorem cf{c:Operand}{x y:Code}{b:Bool}(hb:b=false)(ht:Gs tb F (.code y::k) (L.kn c false))(hc:lv (bN L c)=some (.bool b):=by rfl):jm tb F (.code (.cond c x y)::k) L:=
 ⟨fun e w hs=>cv.Kp (hs.lv hc) hb ((Gs.ok ht).ok e w (hs.kn hc hb))⟩
theorem rg{i:Nat}{ops:List Oper}(h:Gr tb F ops ops k L)(hd:l5 F.n ops=true:=by rfl):jm tb F (.code (.region i ops.toArray false)::k) L:=⟨fun e w hs=>cv.region hd ((Gr.ok h).ok e w hs)⟩
theorem dk{n0:Nat}{acc:List Er}(h:Gs tb F k L)(hc:EL n0 L.nx all acc.reverse=true:=by kernel_rfl):DkN tb F n0 all k acc L:=⟨To▸hc,h⟩
theorem gd{β:Type}{p:Prop}[Decidable p]{A B:Option β}{res:β}{b:Bool}{K:Bool->Prop}(h:(if p then A else B)=some res)(ht:p->A=some res->K true)(hf:¬p->B=some res->K false)(hb:b=decide p:=by first|rfl|exact dbt|exact dnt|simp):BC b K:=by
 subst hb;by_cases hp:p
 . rw[show decide p=true by simp[hp]];exact ht hp (Mj hp h)
 . rw[show decide p=false by simp[hp]];exact hf hp (Kw hp h)
end
open Go Go.RowKit Go.X
variable [eT]
def ot(L:SS):List Operand->Option (List S1)
 |[]=>some []
 |x::r=>match bN L x with
  |some (.s s)=>match ot L r with
   |some y=>some (s::y)
   |none=>none
  |_=>none
theorem BL{ν:Nu}{H:Bool->Hp}{L:SS}{e:Env}(hs:di ν H (aQ L.bQ) e):∀{xs:List Operand} {ss:List S1},ot L xs=some ss->dO ν H ss (xs.map (ev e))
 |[],_,h=>by cases h;rfl
 |x::r,_,h=>by
  simp only[ot]at h;split at h
  . rename_i s hx;split at h
    . rename_i y hy;cases h;exact⟨_,_,rfl,cW hs hx,BL hs hy⟩
    . cases h
  . cases h
def qs:Option Bool->Bool->Bool->Bool
 |some true,false,_=>false
 |_,false,true=>false
 |_,_,_=>true
def oq(md:Option Bool)(bC:OF)(is:List Nat):Lf->Lf->Option Lf
 |.v (.slice none 0 0),.ro r κ _=>some (.ro r κ [])
 |.v x,_=>some (.v x)
 |.ro r κ xs,.ro _ κ' _=>match qs md κ κ' with
  |true=>some (.ro r κ' xs)
  |false=>none
 |.cp r κ xs,.ro _ κ' _=>match qs md κ κ' with
  |true=>some (.ro r κ' xs)
  |false=>none
 |.own i,.ro _ false _=>match md with
  |none=>match iP is i with
   |none=>match bC i with
    |some (.row r _ xs)=>some (.ro r false xs)
    |_=>none
   |some _=>none
  |some _=>none
 |.own i,.own _=>match iP is i with
  |some j=>some (.own j)
  |none=>none
 |.own i,.ap _ r κ' xs=>match iP is i with
  |some j=>match bC i with
   |some (.row r κ xs)=>match qs md κ κ' with
    |true=>some (.ap j r κ' xs)
    |false=>none
   |_=>none
  |none=>none
 |.ap i r κ xs,.ap _ _ κ' _=>match iP is i with
  |some j=>match qs md κ κ' with
   |true=>some (.ap j r κ' xs)
   |false=>none
  |none=>none
 |.ptr i o,_=>match iP is i with
  |some j=>some (.ptr j o)
  |none=>none
 |.mp i,_=>match iP is i with
  |some j=>some (.mp j)
  |none=>none
 |.sg i sz lo hi,_=>match iP is i with
  |some j=>some (.sg j sz lo hi)
  |none=>none
 |.pd q,_=>match md with
  |some true=>none
  |_=>some (.pd q)
 |_,_=>none
def mZ(md:Option Bool)(bC:OF)(is:List Nat):List Lf->List Lf->Option (List Lf)
 |[],[]=>some []
 |a::r,b::s=>match oq md bC is a b with
  |some x=>match mZ md bC is r s with
   |some y=>some (x::y)
   |none=>none
  |none=>none
 |_,_=>none
def kh(md:Option Bool)(bC:OF)(is:List Nat):List S1->List S1->Option (List S1)
 |[],[]=>some []
 |.lf a::r,.lf b::s=>match oq md bC is a b with
  |some x=>match kh md bC is r s with
   |some y=>some (.lf x::y)
   |none=>none
  |none=>none
 |.agg a::r,.agg b::s=>match mZ md bC is a b with
  |some x=>match kh md bC is r s with
   |some y=>some (.agg x::y)
   |none=>none
  |none=>none
 |_,_=>none
def rD(md:Option Bool)(bC:OF)(is:List Nat):Ob->Ob->Option Ob
 |.row r κ xs,.row _ κ' _=>match qs md κ κ' with
  |true=>some (.row r κ' xs)
  |false=>none
 |.row r κ xs,.aG _ κ' _=>match qs md κ κ' with
  |true=>some (.aG r κ' xs)
  |false=>none
 |.aG r κ xs,.aG _ κ' _=>match qs md κ κ' with
  |true=>some (.aG r κ' xs)
  |false=>none
 |.box a,.box b=>match mZ md bC is a b with
  |some x=>some (.box x)
  |none=>none
 |.map dk kf vf m,.map _ _ _ _=>some (.map dk kf vf m)
 |_,_=>none
def iT(md:Option Bool)(bC:OF)(is:List Nat):List Nat->List Ob->Option (List Ob)
 |[],[]=>some []
 |i::r,b::s=>match bC i with
  |some a=>match rD md bC is a b with
   |some x=>match iT md bC is r s with
    |some y=>some (x::y)
    |none=>none
   |none=>none
  |none=>none
 |_,_=>none
def Xc(ν:Nu)(is:List Nat)(b:Nat):Prop:=∃i∈is,du ν i=some b
open Classical in
noncomputable def Hc(md:Option Bool)(H:Bool->Hp)(X:Nat->Prop)(w:World):Bool->Hp
 |true=>H true
 |false=>match md with
  |some κ=>H κ
  |none=>fun b=>if X b then none else w.heap[b]?
theorem Dp{H:Bool->Hp}{X:Nat->Prop}{w:World}{b:Nat}{o:Obj}:Hc none H X w false b=some o↔¬X b/\w.heap[b]?=some o:=by
 unfold Hc;dsimp only;split
 . rename_i h;exact⟨fun h'=>by(cases h'),fun h'=>absurd h h'.1⟩
 . rename_i h;exact⟨fun h'=>⟨h,h'⟩,fun h'=>h'.2⟩
section
variable {md:Option Bool} {X:Nat->Prop} {w0 w:World} {H0:Bool->Hp} {ν:Nu} {oF:OF} {is:List Nat}
theorem By(hI:∀i∈is,∃ob,oF i=some ob){b:Nat}(h:Xc ν is b):Ow ν oF b:=by
 obtain⟨i,h1,h2⟩:=h;obtain⟨ob,h3⟩:=hI i h1;exact⟨i,ob,h3,.inl h2⟩
theorem DN(hS:cH X w0 H0 ν oF w)(hI:∀i∈is,∃ob,oF i=some ob){κ:Bool}:Le (HF X w0 H0 ν oF w κ) (Hc none (HF X w0 H0 ν oF w) (Xc ν is) w false):=fun b o h=>by
 obtain⟨h1,h2⟩:=hS.rd h;exact Dp.2 ⟨fun hx=>h2 (By hI hx),h1⟩
theorem oP(hS:cH X w0 H0 ν oF w)(hI:∀i∈is,∃ob,oF i=some ob){κ κ':Bool}(h:qs md κ κ'=true):Le (HF X w0 H0 ν oF w κ) (Hc md (HF X w0 H0 ν oF w) (Xc ν is) w κ'):=by
 cases κ' with
 |true=>cases κ with
  |true=>exact Le.refl _
  |false=>cases md with
   |none=>cases h
   |some κ=>cases κ<;>cases h
 |false=>cases md with
  |none=>exact DN hS hI
  |some κ2=>cases κ2 with
   |true=>cases κ with
    |true=>exact Le.refl _
    |false=>cases h
   |false=>exact hS.lef κ
theorem Hr(hS:cH X w0 H0 ν oF w)(hI:∀i∈is,∃ob,oF i=some ob):Le (Hc md (HF X w0 H0 ν oF w) (Xc ν is) w true) (Hc md (HF X w0 H0 ν oF w) (Xc ν is) w false):=by
 cases md with
 |none=>exact DN hS hI
 |some κ=>cases κ with
  |true=>exact Le.refl _
  |false=>exact hS.tf
theorem Hc_w(hS:cH X w0 H0 ν oF w)(hI:∀i∈is,∃ob,oF i=some ob){b:Nat}{o:Obj}(h:Hc md (HF X w0 H0 ν oF w) (Xc ν is) w false b=some o):b<w.heap.size/\w.heap[b]?=some o/\¬Xc ν is b:=by
 cases md with
 |none=>
  obtain⟨h1,h2⟩:=Dp.1 h;exact⟨kd h2,h2,h1⟩
 |some κ=>
  obtain⟨h1,h2⟩:=hS.rd (show HF X w0 H0 ν oF w κ b=some o from h);exact⟨kd h1,h1,fun hx=>h2 (By hI hx)⟩
variable {νc:Nu} {cF:OF}
theorem qi(hS:cH X w0 H0 ν oF w)(hI:∀i∈is,∃ob,oF i=some ob)(κ:Bool):Le (Hc md (HF X w0 H0 ν oF w) (Xc ν is) w κ) (HF (Xc ν is) w (Hc md (HF X w0 H0 ν oF w) (Xc ν is) w) νc cF w κ):=fun b o h=>by
 have hf:Hc md (HF X w0 H0 ν oF w) (Xc ν is) w false b=some o:=by
  cases κ with
  |true=>exact Hr hS hI b o h
  |false=>exact h
 obtain⟨h1,h2,h3⟩:=Hc_w hS hI hf;rw[nY h1 h3];exact h
theorem La(hS:cH X w0 H0 ν oF w)(hI:∀i∈is,∃ob,oF i=some ob)(he:∀κ,Le (Hc md (HF X w0 H0 ν oF w) (Xc ν is) w κ) ((fun κ=>HF (Xc ν is) w (Hc md (HF X w0 H0 ν oF w) (Xc ν is) w) νc cF w κ) κ)){a b l:Lf}{v:Value}(h:oq md oF is a b=some l)(hr:a.R ν (HF X w0 H0 ν oF w) v):
 l.R (dY ν is) (HF (Xc ν is) w (Hc md (HF X w0 H0 ν oF w) (Xc ν is) w) νc cF w) v:=by
 unfold oq at h;split at h
 . cases h;obtain⟨h1,_⟩:=hr;rw[h1];exact Rs.nil
 . cases h;exact hr
 . split at h
   . rename_i hk;cases h;exact Rs.mono hr (Le.trans (oP hS hI hk) (he _))
   . cases h
 . split at h
   . rename_i hk;cases h;exact Rs.mono hr.1 (Le.trans (oP hS hI hk) (he _))
   . cases h
 . split at h
   . split at h
     . rename_i hp;split at h
       . rename_i α r κ xs ho;cases h;obtain⟨b,c,n,q1,rfl⟩:=hr;obtain⟨b',c',n',kk,q2,q3,e1,e0,cs,sp,rfl,e3,e4⟩:=hS.cS _ _ ho;rw[q1]at q2;cases q2;cases b with
         |none=>exact qv q3 e3 e0
         |some b=>
          have hx:¬Xc ν is b:=by
           rintro⟨j,g1,g2⟩;obtain⟨oj,g3⟩:=hI j g1;have:=hS.gB _ j _ oj b ho g3 (.inl (eE q1)) (.inl g2);subst this;exact C5 hp g1
          exact wm (oH q3 fun q hq=>he false b q (Dp.2 ⟨hx,hq⟩)) (e3.mono (Le.trans (DN hS hI) (he false))) e0 rfl e1 e4
       . cases h
     . cases h
   . cases h
 . split at h
   . rename_i j hj;cases h;obtain⟨b,c,n,h1,h2⟩:=hr;exact⟨b,c,n,jZ (lj hj) h1,h2⟩
   . cases h
 . split at h
   . rename_i j hj;split at h
     . rename_i α r κ xs ho;split at h
       . cases h;obtain⟨b,c,n,q1,rfl⟩:=hr;obtain⟨b',c',n',kk,q2,q3,e1,e0,cs,sp,rfl,e3,e4⟩:=hS.cS _ _ ho;rw[q1]at q2;cases q2;refine⟨b,c,n,jZ (lj hj) q1,.inl ⟨e1,fun hb=>?_,rfl⟩⟩;subst hb;have hq:Rs r (HF X w0 H0 ν oF w κ) (ff none 0 0 0) xs:=qv q3 e3 e0;rcases hq with⟨_,h⟩|⟨_,_,_,hv,_⟩
         . exact h
         . cases hv
       . cases h
     . cases h
   . cases h
 . split at h
   . rename_i j hj;split at h
     . rename_i hk;cases h;obtain⟨b,c,n,h1,h2⟩:=hr;exact⟨b,c,n,jZ (lj hj) h1,h2.imp id fun g=>⟨g.1,Rs.mono g.2.1 (Le.trans (oP hS hI hk) (he _)),g.2.2⟩⟩
     . cases h
   . cases h
 . split at h
   . rename_i j hj;cases h;obtain⟨b,c,h1,h2⟩:=hr;exact⟨b,c,jZ (lj hj) h1,h2⟩
   . cases h
 . split at h
   . rename_i j hj;cases h;obtain⟨b,c,h1,h2⟩:=hr;exact⟨b,c,jZ (lj hj) h1,h2⟩
   . cases h
 . split at h
   . rename_i j hj;cases h;obtain⟨b,c,m,k,cp,h1,h2⟩:=hr;exact⟨b,c,m,k,cp,jZ (lj hj) h1,h2⟩
   . cases h
 . split at h
   . cases h
   . rename_i hmd;cases h;refine Pd.mono _ _ _ _ (fun κ=>?_) hr;refine Le.trans (oP (md:=md) hS hI (κ:=κ) (κ':=κ) ?_) (he κ);cases md with
     |none=>cases κ<;>rfl
     |some κ2=>cases κ2 with
      |true=>exact absurd rfl hmd
      |false=>cases κ<;>rfl
 . cases h
theorem Eh(hS:cH X w0 H0 ν oF w)(hI:∀i∈is,∃ob,oF i=some ob)(he:∀κ,Le (Hc md (HF X w0 H0 ν oF w) (Xc ν is) w κ) ((fun κ=>HF (Xc ν is) w (Hc md (HF X w0 H0 ν oF w) (Xc ν is) w) νc cF w κ) κ)):∀{a b l:List Lf} {v:List Value},mZ md oF is a b=some l->cR ν (HF X w0 H0 ν oF w) a v->
 cR (dY ν is) (HF (Xc ν is) w (Hc md (HF X w0 H0 ν oF w) (Xc ν is) w) νc cF w) l v
 |[],[],l,a,h,hr=>by cases h;exact hr
 |x::r,y::s,l,a,h,hr=>by
  simp only[mZ]at h;split at h
  . rename_i u hu;split at h
    . rename_i z hz;cases h;obtain⟨a,az,h1,h2,h3⟩:=hr;exact⟨a,az,h1,La hS hI he hu h2,Eh hS hI he hz h3⟩
    . cases h
  . cases h
 |[],_::_,_,_,h,_=>by cases h
 |_::_,[],_,_,h,_=>by cases h
theorem wE(hS:cH X w0 H0 ν oF w)(hI:∀i∈is,∃ob,oF i=some ob)(he:∀κ,Le (Hc md (HF X w0 H0 ν oF w) (Xc ν is) w κ) ((fun κ=>HF (Xc ν is) w (Hc md (HF X w0 H0 ν oF w) (Xc ν is) w) νc cF w κ) κ)):∀{a b l:List S1} {v:List Value},kh md oF is a b=some l->dO ν (HF X w0 H0 ν oF w) a v->
 dO (dY ν is) (HF (Xc ν is) w (Hc md (HF X w0 H0 ν oF w) (Xc ν is) w) νc cF w) l v
 |[],[],l,a,h,hr=>by cases h;exact hr
 |.lf x::r,.lf y::s,l,a,h,hr=>by
  simp only[kh]at h;split at h
  . rename_i u hu;split at h
    . rename_i z hz;cases h;obtain⟨a,az,h1,h2,h3⟩:=hr;exact⟨a,az,h1,La (a:=x) hS hI he hu h2,wE hS hI he hz h3⟩
    . cases h
  . cases h
 |.agg x::r,.agg y::s,l,a,h,hr=>by
  simp only[kh]at h;split at h
  . rename_i u hu;split at h
    . rename_i z hz;cases h;obtain⟨a,az,h1,⟨vs,h2,h4⟩,h3⟩:=hr;exact⟨a,az,h1,⟨vs,h2,Eh hS hI he hu h4⟩,wE hS hI he hz h3⟩
    . cases h
  . cases h
 |.lf _::_,.agg _::_,_,_,h,_=>by cases h
 |.agg _::_,.lf _::_,_,_,h,_=>by cases h
 |[],_::_,_,_,h,_=>by cases h
 |.lf _::_,[],_,_,h,_=>by cases h
 |.agg _::_,[],_,_,h,_=>by cases h
theorem uL:∀{l:List Nat} {ib ib':List Ob} {j k:Nat} {ob:Ob},iT md oF is l ib=some ib'->aQ (ei j ib') k=some ob->∃p i a b,k=j+p/\l[p]?=some i/\oF i=some a/\rD md oF is a b=some ob
 |[],[],_,j,k,ob,h,hk=>by cases h;cases hk
 |i::r,b::s,_,j,k,ob,h,hk=>by
  simp only[iT]at h;split at h
  . rename_i a ha;split at h
    . rename_i x hx;split at h
      . rename_i y hy;cases h;have hk:(bif Nat.beq k j then some x else aQ (ei (j+1) y) k)=some ob:=hk;cases hb:Nat.beq k j with
        |true=>rw[hb]at hk;cases hk;exact⟨0,i,a,b,by have:=dH hb;omega,rfl,ha,hx⟩
        |false=>
         rw[hb]at hk;obtain⟨p,i',a',b',g1,g2,g3,g4⟩:=uL hy hk;exact⟨p+1,i',a',b',by omega,by simpa using g2,g3,g4⟩
      . cases h
    . cases h
  . cases h
 |[],_::_,_,_,_,_,h,_=>by cases h
 |_::_,[],_,_,_,_,h,_=>by cases h
theorem J6:∀{l:List Nat} {ib ib':List Ob},iT md oF is l ib=some ib'->ib'.length=l.length
 |[],[],_,h=>by cases h;rfl
 |i::r,b::s,_,h=>by
  simp only[iT]at h;split at h
  . split at h
    . split at h
      . rename_i y hy;cases h;simp[J6 hy]
      . cases h
    . cases h
  . cases h
 |[],_::_,_,h=>by cases h
 |_::_,[],_,h=>by cases h
theorem rv:∀{l:List Nat} {ib ib':List Ob},iT md oF is l ib=some ib'->∀i∈l,∃ob,oF i=some ob
 |[],[],_,_,i,hi=>by cases hi
 |j::r,b::s,_,h,i,hi=>by
  simp only[iT]at h;split at h
  . rename_i a ha;split at h
    . split at h
      . rename_i y hy;rcases dT.1 hi with e|e
        . subst e;exact⟨a,ha⟩
        . exact rv hy i e
      . cases h
    . cases h
  . cases h
 |[],_::_,_,h,_,_=>by cases h
 |_::_,[],_,h,_,_=>by cases h
theorem Bz{md:Option Bool}{oF:OF}{is:List Nat}{a b x:Ob}(h:rD md oF is a b=some x):x.tid=none:=by
 unfold rD at h;split at h
 . split at h
   . cases h;rfl
   . cases h
 . split at h
   . cases h;rfl
   . cases h
 . split at h
   . cases h;rfl
   . cases h
 . split at h
   . cases h;rfl
   . cases h
 . cases h;rfl
 . cases h
theorem cH.yZ(hS:cH X w0 H0 ν oF w)(hn:fI is=true){ib:List Ob}(h:iT md oF is is ib=some ib):cH (Xc ν is) w (Hc md (HF X w0 H0 ν oF w) (Xc ν is) w) (dY ν is) (aQ (ei 0 ib)) w:=by
 have hI:=rv h;refine⟨rfl,rfl,rfl,bK _,fun _ _ _=>rfl,Hr hS hI,fun b o hb=>Hc_w hS hI hb,hS.tab,fun k ob hk=>?_,fun k ob b hk hb=>?_,fun k k' o o' b hk hk' hb hb'=>?_,fun k ob hk=>?_⟩
 . obtain⟨p,i,a,b,e1,e2,e3,e4⟩:=uL h hk;rw[eK]at e1;subst e1;obtain⟨b',c,n,kk,q1,q2,q3⟩:=hS.cS i a e3;refine⟨b',c,n,kk,jZ e2 q1,q2,?_⟩;unfold rD at e4;split at e4
   . split at e4
     . rename_i hok;cases e4;obtain⟨r1,r0,cs,sp,r2,r3,r4⟩:=q3;exact⟨r1,r0,cs,sp,r2,r3.mono (Le.trans (oP hS hI hok) (qi hS hI _)),r4⟩
     . cases e4
   . split at e4
     . rename_i hok;cases e4;obtain⟨r1,r0,cs,sp,r2,r3,r4⟩:=q3;exact⟨r0,.inl ⟨r1,cs,sp,r2,r3.mono (Le.trans (oP hS hI hok) (qi hS hI _)),r4⟩⟩
     . cases e4
   . split at e4
     . rename_i hok;cases e4;exact⟨q3.1,q3.2.imp (fun⟨r1,cs,sp,r2,r3,r4⟩=>⟨r1,cs,sp,r2,r3.mono (Le.trans (oP hS hI hok) (qi hS hI _)),r4⟩) id⟩
     . cases e4
   . split at e4
     . rename_i x hx;cases e4;obtain⟨vs,r1,r2⟩:=q3;exact⟨vs,r1,Eh hS hI (qi hS hI) hx r2⟩
     . cases e4
   . cases e4;exact q3
   . cases e4
 . obtain⟨p,i,a,b',e1,e2,e3,e4⟩:=uL h hk;rw[eK]at e1;subst e1;exact .inl ⟨i,ni e2,by rw[<-vv e2];exact(pT (Bz e4)).1 hb⟩
 . obtain⟨p,i,a,b1,e1,e2,e3,e4⟩:=uL h hk;obtain⟨p',i',a',b1',e1',e2',e3',e4'⟩:=uL h hk';rw[eK]at e1 e1';subst e1;subst e1';have:=hS.gB i i' a a' b e3 e3' (.inl (by rw[<-vv e2];exact(pT (Bz e4)).1 hb)) (.inl (by rw[<-vv e2'];exact(pT (Bz e4')).1 hb'));subst this;exact yY hn e2 e2'
 . obtain⟨p,i,a,b',e1,e2,e3,e4⟩:=uL h hk;have e:=Bz e4;exact⟨fun t ht=>absurd ht (by rw[vF e];simp),fun b t _ ht=>absurd ht (by rw[vF e];simp),fun j hj=>absurd hj (by rw[e];simp)⟩
end
def rn(is:List Nat)(nx k:Nat):Nat:=match is[k]?with
 |some i=>i
 |none=>nx+(k-is.length)
def mA:Option Bool->Bool->Bool
 |_,true=>true
 |none,false=>false
 |some κ,false=>κ
def mr:Option Bool->Bool->Bool
 |none,κ=>κ
 |some _,_=>true
def sL(md:Option Bool)(is:List Nat)(nx:Nat):Lf->Lf
 |.v x=>.v x
 |.ro r κ xs=>.ro r (mA md κ) xs
 |.cp r κ xs=>.cp r (mA md κ) xs
 |.own i=>.own (rn is nx i)
 |.ptr i o=>.ptr (rn is nx i) o
 |.mp i=>.mp (rn is nx i)
 |.pd q=>.pd q
 |.sg i sz lo hi=>.sg (rn is nx i) sz lo hi
 |.ap i r κ xs=>.ap (rn is nx i) r (mA md κ) xs
def kI(md:Option Bool)(is:List Nat)(nx:Nat):S1->S1
 |.lf l=>.lf (sL md is nx l)
 |.agg l=>.agg (l.map (sL md is nx))
def tg(md:Option Bool)(is:List Nat)(nx:Nat):Ob->Ob
 |.row r κ xs=>.row r (mA md κ) xs
 |.box l=>.box (l.map (sL md is nx))
 |.map dk kf vf m=>.map dk kf vf m
 |.deep t D xs hs=>.deep t D xs hs
 |.hd h i i' r κ xs=>.hd h i i' r κ xs
 |.aG r κ xs=>.aG r (mA md κ) xs
def okI(n:Nat):Lf->Bool
 |.own i=>Nat.blt i n
 |.ptr i _=>Nat.blt i n
 |.mp i=>Nat.blt i n
 |_=>true
def okL(md:Option Bool)(n:Nat):Lf->Bool
 |.ro _ κ _=>mr md κ
 |.cp _ κ _=>mr md κ
 |.pd _=>false
 |.sg .. =>false
 |.ap i _ κ _=>Nat.blt i n&&mr md κ
 |l=>okI n l
def pG(md:Option Bool)(n:Nat):S1->Bool
 |.lf l=>okL md n l
 |.agg l=>l.all (okL md n)
def okO(md:Option Bool)(n:Nat):Ob->Bool
 |.row _ κ _=>mr md κ
 |.box l=>l.all (okL md n)
 |.map _ _ _ _=>true
 |.deep _ _ _ _=>false
 |.hd .. =>false
 |.aG _ κ _=>mr md κ
def og(md:Option Bool)(n:Nat):List (Nat×Option Ob)->Bool
 |[]=>true
 |(k,some o)::r=>Nat.blt k n&&okO md n o&&og md n r
 |(_,none)::_=>false
def eX(md:Option Bool)(is:List Nat)(nx:Nat):List (Nat×Option Ob)->List (Nat×Option Ob)
 |[]=>[]
 |(k,o)::r=>(rn is nx k,o.map (tg md is nx))::eX md is nx r
def gW:List Nat->List (Nat×Option Ob)
 |[]=>[]
 |i::r=>(i,none)::gW r
def o7:List S1->Sv
 |[s]=>.s s
 |l=>.fp l
def iO(ν ν':Nu)(m nx nn:Nat):Nu:=⟨fun k=>bif Nat.ble nx k&&Nat.blt k (nx+nn)then ν' (m+(k-nx))else ν k,ν.tl,ν.tc⟩
theorem Ie{ν ν':Nu}{m nx nn k:Nat}:iO ν ν' m nx nn k=bif Nat.ble nx k&&Nat.blt k (nx+nn)then ν' (m+(k-nx))else ν k:=rfl
theorem I3{md:Option Bool}{n:Nat}{o:Ob}(h:okO md n o=true):o.tid=none:=by cases o<;>first|rfl|cases h
theorem Kl{md:Option Bool}{is:List Nat}{nx:Nat}{o:Ob}:(tg md is nx o).tid=o.tid:=by cases o<;>rfl
theorem A4{ν ν':Nu}{m nx nn:Nat}:iA nx nn ν (iO ν ν' m nx nn):=fun k hk=>by
 rw[Ie];have:(Nat.ble nx k&&Nat.blt k (nx+nn))=false:=by
  cases h1:Nat.ble nx k with
  |false=>rfl
  |true=>
   have h1:=ku h1;cases h2:Nat.blt k (nx+nn)with
   |false=>rfl
   |true=>have h2:k+1<=nx+nn:=ku h2;omega
 rw[this];rfl
theorem Oe{ν ν':Nu}{m nx nn j:Nat}(h:j<nn):iO ν ν' m nx nn (nx+j)=ν' (m+j):=by
 rw[Ie];have h1:Nat.ble nx (nx+j)=true:=MX (by omega);have h2:Nat.blt (nx+j) (nx+nn)=true:=by show Nat.ble (nx+j+1) (nx+nn)=true;exact MX (by omega)
 rw[h1,h2];simp
section
variable {md:Option Bool} {X:Nat->Prop} {w0 w w':World} {H0:Bool->Hp} {ν ν':Nu} {oF:OF} {is:List Nat} {nx nn:Nat}
theorem pe(hν:∀k,nx<=k->k<nx+nn->ν k=none)(hp:∀k,k<is.length->ν' k=dY ν is k){k:Nat}{x:Option Nat×Nat×Nat}(hk:k<is.length+nn)(h:ν' k=some x):iO ν ν' is.length nx nn (rn is nx k)=some x:=by
 unfold rn;rcases cw k is.length with h1|h1
 . rw[bV h1];rw[hp k h1]at h;rw[p7,bV h1]at h;have h:ν is[k]=some x:=h;exact A4.le hν _ _ h
 . rw[fP h1];show iO ν ν' is.length nx nn (nx+(k-is.length))=some x;rw[Oe (by omega),show is.length+(k-is.length)=k by omega];exact h
variable {out:List (Nat×Option Ob)} {H H':Bool->Hp}
theorem Jo(hν:∀k,nx<=k->k<nx+nn->ν k=none)(hp:∀k,k<is.length->ν' k=dY ν is k)(hH:∀κ,mr md κ=true->Le (H κ) (H' (mA md κ))){l:Lf}{v:Value}(hk:okL md (is.length+nn) l=true)(h:l.R ν' H v):(sL md is nx l).R (iO ν ν' is.length nx nn) H' v:=by
 have lt:∀{i n:Nat},Nat.blt i n=true->i<n:=fun h=>ku h;cases l with
 |v x=>exact h
 |ro r κ xs=>exact Rs.mono h (hH κ hk)
 |cp r κ xs=>exact⟨Rs.mono h.1 (hH κ hk),h.2⟩
 |own i=>obtain⟨b,c,n,h1,h2⟩:=h;exact⟨b,c,n,pe hν hp (lt hk) h1,h2⟩
 |ptr i o=>obtain⟨b,c,h1,h2⟩:=h;exact⟨b,c,pe hν hp (lt hk) h1,h2⟩
 |mp i=>obtain⟨b,c,h1,h2⟩:=h;exact⟨b,c,pe hν hp (lt hk) h1,h2⟩
 |pd q=>cases hk
 |sg i sz lo hi=>cases hk
 |ap i r κ xs=>
  have hk:(Nat.blt i (is.length+nn)&&mr md κ)=true:=hk;rw[fG]at hk;obtain⟨b,c,n,h1,h2⟩:=h;exact⟨b,c,n,pe hν hp (lt hk.1) h1,h2.imp id fun h=>⟨h.1,Rs.mono h.2.1 (hH κ hk.2),h.2.2⟩⟩
theorem DU(hν:∀k,nx<=k->k<nx+nn->ν k=none)(hp:∀k,k<is.length->ν' k=dY ν is k)(hH:∀κ,mr md κ=true->Le (H κ) (H' (mA md κ))):∀{l:List Lf} {v:List Value},l.all (okL md (is.length+nn))=true->cR ν' H l v->cR (iO ν ν' is.length nx nn) H' (l.map (sL md is nx)) v
 |[],_,_,h=>h
 |x::r,_,hk,⟨a,az,h1,h2,h3⟩=>by
  simp only[Cd,fG]at hk;exact⟨a,az,h1,Jo hν hp hH hk.1 h2,DU hν hp hH hk.2 h3⟩
theorem FV(hν:∀k,nx<=k->k<nx+nn->ν k=none)(hp:∀k,k<is.length->ν' k=dY ν is k)(hH:∀κ,mr md κ=true->Le (H κ) (H' (mA md κ))):∀{l:List S1} {v:List Value},l.all (pG md (is.length+nn))=true->dO ν' H l v->dO (iO ν ν' is.length nx nn) H' (l.map (kI md is nx)) v
 |[],_,_,h=>h
 |.lf x::r,_,hk,⟨a,az,h1,h2,h3⟩=>by
  simp only[Cd,fG]at hk;exact⟨a,az,h1,Jo (l:=x) hν hp hH hk.1 h2,FV hν hp hH hk.2 h3⟩
 |.agg x::r,_,hk,⟨a,az,h1,⟨vs,h2,h4⟩,h3⟩=>by
  simp only[Cd,fG]at hk;exact⟨a,az,h1,⟨vs,h2,DU hν hp hH hk.1 h4⟩,FV hν hp hH hk.2 h3⟩
theorem Um(hν:∀k,nx<=k->k<nx+nn->ν k=none)(hp:∀k,k<is.length->ν' k=dY ν is k)(hH:∀κ,mr md κ=true->Le (H κ) (H' (mA md κ))){c n:Nat}{k:cU}{o:Ob}(hk:okO md (is.length+nn) o=true)(h:o.R ν' H c n k):(tg md is nx o).R (iO ν ν' is.length nx nn) H' c n k:=by
 cases o with
 |row r κ xs=>obtain⟨e1,e0,cs,sp,e2,e3,e4⟩:=h;exact⟨e1,e0,cs,sp,e2,e3.mono (hH κ hk),e4⟩
 |box l=>obtain⟨vs,e1,e2⟩:=h;exact⟨vs,e1,DU hν hp hH hk e2⟩
 |map dk kf vf m=>exact h
 |deep t D xs hs=>cases hk
 |hd h i i' r κ xs=>cases hk
 |aG r κ xs=>
  obtain⟨h0,h⟩:=h;exact⟨h0,h.imp (fun⟨e,cs,sp,g1,g2,g3⟩=>⟨e,cs,sp,g1,g2.mono (hH κ hk),g3⟩) id⟩
theorem Up{ν:Nu}:∀{l:List S1} {vs:List Value},dO ν H l vs->(o7 l).R ν H (jh vs)
 |[],_,h=>by rw[show _=[] from h];exact⟨[],rfl,rfl⟩
 |[_],_,⟨a,az,h1,h2,h3⟩=>by rw[h1,show az=[] from h3];exact h2
 |_::_::_,_,⟨a,az,h1,h2,a',az',h3,h4,h5⟩=>by rw[h1,h3];exact⟨a::a'::az',rfl,a,_,rfl,h2,a',_,rfl,h4,h5⟩
theorem Iv:∀{out:List (Nat×Option Ob)} {n k:Nat} {o:Option Ob},og md n out=true->(k,o)∈out->∃ob,o=some ob/\k<n/\okO md n ob=true
 |[],_,_,_,_,h=>by cases h
 |(j,some x)::r,n,k,o,hk,h=>by
  simp only[og,fG]at hk;rcases dT.1 h with e|e
  . cases e;exact⟨x,rfl,ku hk.1.1,hk.1.2⟩
  . exact Iv hk.2 e
 |(j,none)::r,n,k,o,hk,h=>by cases hk
theorem KF{α:Type 1}:∀{l:List (Nat×Option α)} {k:Nat} {o:Option α},fI (l.map (·.1))=true->(k,o)∈l->aQ l k=o
 |[],_,_,_,h=>by cases h
 |(j,x)::r,k,o,hn,h=>by
  simp only[jY,fI,fG,Gt]at hn;show(bif Nat.beq k j then x else aQ r k)=o;rcases dT.1 h with e|e
  . cases e;rw[qR];rfl
  . have:Nat.beq k j=false:=by
     cases hb:Nat.beq k j with
     |false=>rfl
     |true=>
      have:=dH hb;subst this;have:=iV.2 (dL.2 ⟨_,e,rfl⟩:k∈r.map (·.1));rw[this]at hn;cases hn.1
    rw[this];exact KF hn.2 e
def iU:List (Nat×Option Ob)->List (Nat×Ob)
 |[]=>[]
 |(k,some o)::r=>(k,o)::iU r
 |(_,none)::r=>iU r
theorem BN:∀{l:List (Nat×Option Ob)} {k:Nat} {o:Ob},(k,o)∈iU l↔(k,some o)∈l
 |[],_,_=>by simp[iU]
 |(j,some x)::r,k,o=>by simp[iU,BN (l:=r)]
 |(j,none)::r,k,o=>by simp[iU,BN (l:=r)]
theorem E9:∀{l:List Nat} {k:Nat} {o:Option Ob},(k,o)∈gW l->k∈l/\o=none
 |[],_,_,h=>by cases h
 |i::r,k,o,h=>by
  rcases dT.1 h with e|e
  . cases e;exact⟨cK,rfl⟩
  . obtain⟨h1,h2⟩:=E9 e;exact⟨cG _ h1,h2⟩
theorem AP:∀{l:List Nat},(gW l).map (·.1)=l
 |[]=>rfl
 |i::r=>by show i::(gW r).map (·.1)=_;rw[AP]
theorem Mg{ν:Nu}{w:World}{H:Bool->Hp}:∀{l:List (Nat×Ob)},(∀x∈l,∃b c n k,ν x.1=some (b,c,n)/\dC w b k/\x.2.R ν H c n k)->(l.map (·.1)).Nodup->(∀x∈l,∀y∈l,∀b,du ν x.1=some b->du ν y.1=some b->x.1=y.1)->
 ∃C,gA w (Os ν l) C/\jd (Os ν l)/\ObsR ν H l C
 |[],_,_,_=>⟨[],trivial,trivial,rfl⟩
 |x::r,h,hn,hd=>by
  obtain⟨b,c,n,k,h1,h2,h3⟩:=h x cK;have hn':=M3.1 (show(x.1::r.map (·.1)).Nodup from hn);obtain⟨C,g1,g2,g3⟩:=Mg (l:=r) (fun y hy=>h y (cG _ hy)) hn'.2 (fun y hy z hz=>hd y (cG _ hy) z (cG _ hz));refine⟨k::C,?_,?_,b,c,n,k,C,rfl,h1,h3,g3⟩
  . show dC w (du ν x.1) k/\_;rw[eE h1];exact⟨h2,g1⟩
  . show jd (du ν x.1::Os ν r);cases hb:du ν x.1 with
    |none=>exact g2
    |some b'=>
     refine⟨fun hm=>?_,g2⟩;obtain⟨y,q1,q2⟩:=IK hm;have:=hd x cK y (cG _ q1) b' hb q2;exact hn'.1 (dL.2 ⟨y,q1,this.symm⟩)
end
section
variable {P:Program} {L:SS}
theorem OY{md:Option Bool}{is:List Nat}{o0 oF:OF}(ho:∀i ob,o0 i=some ob->oF i=some ob):∀{l:List Nat} {ib ib':List Ob},iT md o0 is l ib=some ib'->iT md oF is l ib=some ib':=by
 have upL:∀{a b l:Lf},oq md o0 is a b=some l->oq md oF is a b=some l:=by
  intro a b l h;unfold oq at h⊢;split at h<;>first|exact h|skip
  split at h<;>first|exact h|skip
  split at h<;>first|exact h|skip
  split at h
  . rename_i hi;rw[ho _ _ hi];exact h
  . cases h
  split at h<;>first|exact h|skip
  split at h
  . rename_i hi;rw[ho _ _ hi];exact h
  . cases h
 have upLs:∀{a b l:List Lf},mZ md o0 is a b=some l->mZ md oF is a b=some l:=by
  intro a
  induction a with
  |nil=>intro b l h;cases b<;>exact h
  |cons x r ih=>
   intro b l h;cases b with
   |nil=>exact h
   |cons y s=>
    simp only[mZ]at h⊢;split at h
    . rename_i u hu;rw[upL hu];split at h
      . rename_i z hz;rw[ih hz];exact h
      . cases h
    . cases h
 intro l
 induction l with
 |nil=>intro ib ib' h;cases ib<;>exact h
 |cons i r ih=>
  intro ib ib' h;cases ib with
  |nil=>exact h
  |cons b s=>
   simp only[iT]at h⊢;split at h
   . rename_i a ha;rw[ho _ _ ha];dsimp only;split at h
     . rename_i x hx;have hx':rD md oF is a b=some x:=by
        unfold rD at hx⊢;split at hx<;>first|exact hx|skip
        split at hx
        . rename_i q hq;rw[upLs hq];exact hx
        . cases hx
       rw[hx'];dsimp only;split at h
       . rename_i y hy;rw[ih hy];exact h
       . cases h
     . cases h
   . cases h
theorem Em{md:Option Bool}{is:List Nat}{o0 oF:OF}(ho:∀i ob,o0 i=some ob->oF i=some ob):∀{a b l:List S1},kh md o0 is a b=some l->kh md oF is a b=some l:=by
 have upL:∀{a b l:Lf},oq md o0 is a b=some l->oq md oF is a b=some l:=by
  intro a b l h;unfold oq at h⊢;split at h<;>first|exact h|skip
  split at h<;>first|exact h|skip
  split at h<;>first|exact h|skip
  split at h
  . rename_i hi;rw[ho _ _ hi];exact h
  . cases h
  split at h<;>first|exact h|skip
  split at h
  . rename_i hi;rw[ho _ _ hi];exact h
  . cases h
 have upLs:∀{a b l:List Lf},mZ md o0 is a b=some l->mZ md oF is a b=some l:=by
  intro a
  induction a with
  |nil=>intro b l h;cases b<;>exact h
  |cons x r ih=>
   intro b l h;cases b with
   |nil=>exact h
   |cons y s=>
    simp only[mZ]at h⊢;split at h
    . rename_i u hu;rw[upL hu];split at h
      . rename_i z hz;rw[ih hz];exact h
      . cases h
    . cases h
 intro a
 induction a with
 |nil=>intro b l h;cases b<;>exact h
 |cons x r ih=>
  intro b l h;cases b with
  |nil=>cases x<;>exact h
  |cons y s=>
   cases x<;>cases y<;>simp only[kh]at h⊢<;>first|(cases h;done)|skip
   . split at h
     . rename_i u hu;rw[upL hu];split at h
       . rename_i z hz;rw[ih hz];exact h
       . cases h
     . cases h
   . split at h
     . rename_i u hu;rw[upLs hu];split at h
       . rename_i z hz;rw[ih hz];exact h
       . cases h
     . cases h
theorem BQ(md:Option Bool)(is:List Nat)(nn nx:Nat){X:Nat->Prop}{w0 w w':World}{H0:Bool->Hp}{ν ν':Nu}{oF:OF}{e:Env}{rs:List S1}{vs:List Value}{out:List (Nat×Option Ob)}(hS:cH X w0 H0 ν oF w)(hI:∀i∈is,∃ob,oF i=some ob)(hn:fI is=true)
    (h1:og md (is.length+nn) out=true)(h2:rs.all (pG md (is.length+nn))=true)(h3:fI (out.map (·.1))=true)(hνx:∀k,nx<=k->k<nx+nn->ν k=none)
    (hp:∀k,k<is.length->ν' k=dY ν is k)(hE:cH (Xc ν is) w (Hc md (HF X w0 H0 ν oF w) (Xc ν is) w) ν' (aQ out) w')(hr:dO ν' (HF (Xc ν is) w (Hc md (HF X w0 H0 ν oF w) (Xc ν is) w) ν' (aQ out) w') rs vs):
    ∃ν2,iA nx nn ν ν2/\cH X w0 H0 ν2 (bG (eX md is nx out++gW is) oF) w'/\(∀κ,Le (HF X w0 H0 ν oF w κ) (HF X w0 H0 ν2 (bG (eX md is nx out++gW is) oF) w' κ))/\di ν2 (HF X w0 H0 ν2 (bG (eX md is nx out++gW is) oF) w') (aQ []) e/\svR ν2 (HF X w0 H0 ν2 (bG (eX md is nx out++gW is) oF) w') (some (o7 (rs.map (kI md is nx)))) (jh vs):=by
  refine⟨iO ν ν' is.length nx nn,A4,?_⟩;have keysO:∀{k:Nat} {o:Ob},(k,some o)∈out->k<is.length+nn/\okO md (is.length+nn) o=true:=fun h=>by
    obtain⟨ob,g1,g2,g3⟩:=Iv h1 h;cases g1;exact⟨g2,g3⟩
  have getO:∀{k:Nat} {o:Ob},(k,some o)∈out->aQ out k=some o:=fun h=>KF h3 h;have rnI:∀{k k':Nat},k<is.length+nn->k'<is.length+nn->(∃x,ν' k=some x)->(∃x,ν' k'=some x)->rn is nx k=rn is nx k'->k=k':=by
    intro k k' hk hk' hx hx' he;have old:∀{k:Nat},k<is.length->(∃x,ν' k=some x)->∃x,ν (rn is nx k)=some x:=by
      intro k hk ⟨x,hx⟩;rw[hp k hk]at hx;rw[p7]at hx;unfold rn;rw[bV hk]at hx⊢;exact⟨x,hx⟩
    have new:∀{k:Nat},is.length<=k->k<is.length+nn->rn is nx k=nx+(k-is.length)/\ν (rn is nx k)=none:=by
      intro k hk hk2;have e:rn is nx k=nx+(k-is.length):=by unfold rn;rw[fP hk]
      exact⟨e,by rw[e];exact hνx _ (by omega) (by omega)⟩
    rcases cw k is.length with g|g<;>rcases cw k' is.length with g'|g'
    . have e1:rn is nx k=is[k]:=by unfold rn;rw[bV g]
      have e2:rn is nx k'=is[k']:=by unfold rn;rw[bV g']
      rw[e1,e2]at he;exact yY hn (bV g) (by rw[bV g',he])
    . obtain⟨x,hx⟩:=old g hx;rw[he,(new g' hk').2]at hx;cases hx
    . obtain⟨x,hx⟩:=old g' hx';rw[<-he,(new g hk).2]at hx;cases hx
    . have a:=(new g hk).1;have b:=(new g' hk').1;omega
  have hasν:∀{k:Nat} {o:Ob},(k,some o)∈out->∃x,ν' k=some x:=fun h=>by
    obtain⟨b,c,n,kk,q1,_⟩:=hE.cS _ _ (getO h);exact⟨_,q1⟩
  have nw:∀x∈iU (eX md is nx out),∃k o,(k,some o)∈out/\x=(rn is nx k,tg md is nx o):=by
    have gen:∀(l:List (Nat×Option Ob)),∀x∈iU (eX md is nx l),∃k o,(k,some o)∈l/\x=(rn is nx k,tg md is nx o):=by
      intro l
      induction l with
      |nil=>intro x hx;cases hx
      |cons y r ih=>
        obtain⟨j,o⟩:=y;intro x hx;cases o with
        |none=>obtain⟨k,o,g1,g2⟩:=ih x hx;exact⟨k,o,cG _ g1,g2⟩
        |some o=>
          rcases dT.1 (show x∈(rn is nx j,tg md is nx o)::iU (eX md is nx r) from hx)with e|e
          . exact⟨j,o,cK,e⟩
          . obtain⟨k,o,g1,g2⟩:=ih x e;exact⟨k,o,cG _ g1,g2⟩
    exact gen out
  have hle0:∀(H':Bool->Hp),(∀κ,Le (HF X w0 H0 ν oF w κ) (H' κ))->(∀κ b o,(Xc ν is b\/w.heap.size<=b)->¬Ow ν' (aQ out) b->kF (w'.heap[b]?)=some o->H' κ b=some o)->∀κ,mr md κ=true->Le (HF (Xc ν is) w (Hc md (HF X w0 H0 ν oF w) (Xc ν is) w) ν' (aQ out) w' κ) (H' (mA md κ)):=by
    intro H' hH hn κ hk b o h;rcases rL h with⟨g1,g1',g2⟩|⟨g1,g2,g3⟩
    . cases κ with
      |true=>
        have e:mA md true=true:=by cases md<;>rfl
        rw[e];exact hH true b o g2
      |false=>cases md with
        |none=>cases hk
        |some κ0=>exact hH κ0 b o g2
    . exact hn _ b o g1 g2 g3
  have rel:∀(H':Bool->Hp),(∀κ,Le (HF X w0 H0 ν oF w κ) (H' κ))->(∀κ b o,(Xc ν is b\/w.heap.size<=b)->¬Ow ν' (aQ out) b->kF (w'.heap[b]?)=some o->H' κ b=some o)->
      (∀x∈iU (eX md is nx out),∃b c n k,iO ν ν' is.length nx nn x.1=some (b,c,n)/\dC w' b k/\x.2.R (iO ν ν' is.length nx nn) H' c n k):=by
    intro H' hH hN x hx;obtain⟨k,o,g1,rfl⟩:=nw x hx;obtain⟨b,c,n,kk,q1,q2,q3⟩:=hE.cS k o (getO g1);obtain⟨g2,g3⟩:=keysO g1;exact⟨b,c,n,kk,pe hνx hp g2 q1,q2,Um hνx hp (hle0 H' hH hN) g3 q3⟩
  have dist':∀x∈iU (eX md is nx out),∀y∈iU (eX md is nx out),∀b,du (iO ν ν' is.length nx nn) x.1=some b->du (iO ν ν' is.length nx nn) y.1=some b->x.1=y.1:=by
    intro x hx y hy b hxb hyb;obtain⟨k,o,g1,rfl⟩:=nw x hx;obtain⟨k',o',g1',rfl⟩:=nw y hy;obtain⟨⟨b1,c1⟩,q1⟩:=hasν g1;obtain⟨⟨b2,c2⟩,q2⟩:=hasν g1';have e1:=pe hνx hp (keysO g1).1 q1;have e2:=pe hνx hp (keysO g1').1 q2;dsimp only at hxb hyb;rw[eE e1]at hxb;rw[eE e2]at hyb;subst hxb;subst hyb;have:=hE.gB k k' o o' b (getO g1) (getO g1') (.inl (eE q1)) (.inl (eE q2));subst this;rfl
  have nodup':((iU (eX md is nx out)).map (·.1)).Nodup:=by
    have gen:∀(l:List (Nat×Option Ob)),(∀x∈l,x∈out)->fI (l.map (·.1))=true->((iU (eX md is nx l)).map (·.1)).Nodup/\∀k∈(iU (eX md is nx l)).map (·.1),∃j o,(j,some o)∈l/\k=rn is nx j:=by
      intro l
      induction l with
      |nil=>intro _ _;exact⟨List.nodup_nil,fun k hk=>by cases hk⟩
      |cons y r ih=>
        obtain⟨j,o⟩:=y;intro hsub hnd;simp only[jY,fI,fG,Gt]at hnd;obtain⟨i1,i2⟩:=ih (fun x hx=>hsub x (cG _ hx)) hnd.2;cases o with
        |none=>exact⟨i1,fun k hk=>by obtain⟨j',o',g1,g2⟩:=i2 k hk;exact⟨j',o',cG _ g1,g2⟩⟩
        |some o=>
          refine⟨M3.2 ⟨fun hm=>?_,i1⟩,fun k hk=>?_⟩
          . obtain⟨j',o',g1,g2⟩:=i2 _ hm;have hj:=hsub _ cK;have hj':=hsub _ (cG _ g1);have:=rnI (keysO hj).1 (keysO hj').1 (hasν hj) (hasν hj') g2;subst this;have:=iV.2 (dL.2 ⟨_,g1,rfl⟩:j∈r.map (·.1));rw[this]at hnd;cases hnd.1
          . rcases dT.1 (show k∈rn is nx j::(iU (eX md is nx r)).map (·.1) from hk)with e|e
            . exact⟨j,o,cK,e⟩
            . obtain⟨j',o',g1,g2⟩:=i2 k e;exact⟨j',o',cG _ g1,g2⟩
    exact(gen out (fun _ h=>h) h3).1
  obtain⟨C',l1,l2,l3⟩:=Mg (H:=fun _ b=>w'.heap[b]?) (fun x hx=>rel (fun _ b=>w'.heap[b]?) (fun κ b o hb=>by
    obtain⟨g1,g2⟩:=hS.rd hb;have:¬Xc ν is b:=fun hx=>g2 (By hI hx);have:=hE.keep b (kd g1) this;show w'.heap[b]?=some o;rw[this];exact g1) (fun κ b o _ _ h=>mU h) x hx) nodup' dist'
  have hO:∀b,some b∈is.map (du ν)->Xc ν is b:=fun b hb=>by
    obtain⟨i,g1,g2⟩:=dL.1 hb;exact⟨i,g1,g2⟩
  have hO':∀b,Xc ν is b->some b∈is.map (du ν):=fun b ⟨i,g1,g2⟩=>dL.2 ⟨i,g1,g2⟩;have hLoc:Go.X.Loc (is.map (du ν)) [] w w' (Os (iO ν ν' is.length nx nn) (iU (eX md is nx out))) C':=by
    refine⟨hE.os,hE.tape,hE.output,hE.size,fun k hk hx=>hE.keep k hk (fun h=>hx (hO' k h)),l1,fun b hb=>?_,l2,fun _ _ h=>(by cases h),fun _ h=>(by cases h)⟩;obtain⟨x,g1,g2⟩:=IK hb;obtain⟨k,o,g3,rfl⟩:=nw x g1;obtain⟨⟨b1,c1⟩,q1⟩:=hasν g3;dsimp only at g2;rw[eE (pe hνx hp (keysO g3).1 q1)]at g2;subst g2;rcases hE.fresh k o b (getO g3) (.inl (eE q1))with g|g
    . exact .inl (hO' b g)
    . exact .inr g
  have owN:∀{b:Nat},(Xc ν is b\/w.heap.size<=b)->¬Ow ν' (aQ out) b->¬Ow (iO ν ν' is.length nx nn) (bG (eX md is nx out++gW is) oF) b:=by
    rintro b hb hno ⟨i,ob,g1,g2⟩;rcases jC g1 with g3|⟨g3,g4⟩
    . rcases fb.1 g3 with g3|g3
      . obtain⟨k,o,q1,q2⟩:=nw (i,ob) (BN.2 g3);cases q2;obtain⟨⟨b1,c1⟩,q3⟩:=hasν q1;have g2:=(pT (ν:=iO ν ν' is.length nx nn) (by rw[Kl];exact I3 (keysO q1).2)).1 g2;rw[eE (pe hνx hp (keysO q1).1 q3)]at g2;subst g2;exact hno ⟨k,o,getO q1,.inl (eE q3)⟩
      . have:=(E9 g3).2;cases this
    . obtain⟨b1,c,n,kk,q1,q2,_⟩:=hS.cS i ob g3;have e:du (iO ν ν' is.length nx nn) i=b1:=eE (A4.le hνx _ _ q1);have g2:fN ν i ob b:=by
        rcases g2 with g2|g2
        . exact .inl (by rw[eE q1,<-e];exact g2)
        . exact .inr (by unfold gV at g2⊢;rw[e]at g2;rw[eE q1];exact g2)
      have q2:b<w.heap.size:=hS.ltO g3 g2;rcases hb with hb|hb
      . obtain⟨j,q4,q5⟩:=hb;obtain⟨oj,q6⟩:=hI j q4;have:=hS.gB i j ob oj b g3 q6 g2 (.inl q5);subst this;have hm:bZ i ((eX md is nx out++gW is).map (·.1))=true:=iV.2 (by
          rw[jJ,AP];exact qW _ q4)
        rw[hm]at g4;cases g4
      . omega
  have hN:∀(κ:Bool) b o,(Xc ν is b\/w.heap.size<=b)->¬Ow ν' (aQ out) b->kF (w'.heap[b]?)=some o->HF X w0 H0 (iO ν ν' is.length nx nn) (bG (eX md is nx out++gW is) oF) w' κ b=some o:=by
    intro κ b o hb hno hw;refine kY ?_ (owN hb hno) hw;rcases hb with⟨i,q1,q2⟩|hb
    . obtain⟨oi,q3⟩:=hI i q1;exact hS.fresh i oi b q3 (.inl q2)
    . exact .inr (bO hS.size hb)
  have hF':∀i ob,bG (eX md is nx out++gW is) oF i=some ob->(oF i=some ob/\i∉is)\/(i,ob)∈iU (eX md is nx out):=by
    intro i ob h;rcases jC h with h|⟨h,h'⟩
    . rcases fb.1 h with h|h
      . exact .inr (BN.2 h)
      . have:=(E9 h).2;cases this
    . refine .inl ⟨h,fun hm=>?_⟩;have:bZ i ((eX md is nx out++gW is).map (·.1))=true:=iV.2 (by
        rw[jJ,AP];exact qW _ hm)
      rw[this]at h';cases h'
  obtain⟨k1,k2⟩:=hS.go (T:=is) (O:=is.map (du ν)) (oF':=bG (eX md is nx out++gW is) oF) (new:=iU (eX md is nx out)) (ν':=iO ν ν' is.length nx nn)
    (fun b hb=>by obtain⟨i,g1,g2⟩:=dL.1 hb;obtain⟨ob,g3⟩:=hI i g1;exact⟨i,g1,ob,g3,g2⟩) hLoc (A4.le hνx) rfl nodup' hF' (fun hle=>rel _ hle hN) (fun x hx=>by obtain⟨k,o,g1,rfl⟩:=nw x hx;show(tg md is nx o).tid=none;rw[Kl];exact I3 (keysO g1).2) ⟨rfl,rfl⟩
  exact⟨k1,k2,mw,Up (FV hνx hp (hle0 _ k2 hN) h2 hr)⟩
theorem L5(md:Option Bool)(is:List Nat)(nn:Nat){f:FuncId}{args:List Operand}{ats:Array TypeId}{ty:TypeId}{l0 ls az rs:List S1}{ib:List Ob}{out:List (Nat×Option Ob)}(c:Cx P f az ib out rs)(ha:ot L args=some l0)(hc:∀ν H v,dO ν H l0 v->dO ν H ls v)(hl:kh md (aQ L.bC) is ls az=some az)(hb:iT md (aQ L.bC) is is ib=some ib)(hn:fI is=true)
 (h1:og md (is.length+nn) out=true)(h2:rs.all (pG md (is.length+nn))=true)(h3:fI (out.map (·.1))=true):
 LT P L (.call {callee:=.value (.func f),args:=args.toArray,argTypes:=ats}) ty ⟨nn,eX md is L.nx out++gW is,[]⟩ (some (o7 (rs.map (kI md is L.nx)))):=by
 refine⟨fun X w0 H0 ν oF e w ho hν hS hs=>?_⟩;have hb:=OY ho hb;have hl:=Em ho hl;have hI:=rv hb;have hlen:ib.length=is.length:=J6 hb;have hin:=hS.yZ hn hb;have hargs:=wE hS hI (qi (md:=md) (νc:=dY ν is) (cF:=aQ (ei 0 ib)) hS hI) hl (hc _ _ _ (BL hs ha));refine aF.Lw c.1 rfl rfl (c.2 (Xc ν is) w _ (dY ν is) _ (fun k hk=>by rw[p7,fP (by omega)];rfl) hin hargs) ?_;rintro en w' ⟨vs,rfl,ν',hp,hE,hr⟩;rw[hlen]at hp;exact⟨jh vs,rfl,BQ md is nn L.nx hS hI hn h1 h2 h3 hν hp hE hr⟩
theorem Mt(md:Option Bool)(is:List Nat)(nn:Nat){f:FuncId}{args:List Operand}{ats:Array TypeId}{ty:TypeId}{ls az rs:List S1}{ib:List Ob}{out:List (Nat×Option Ob)}(c:Cx P f az ib out rs)(ha:ot L args=some ls)(hl:kh md (aQ L.bC) is ls az=some az)(hb:iT md (aQ L.bC) is is ib=some ib)(hn:fI is=true)
 (h1:og md (is.length+nn) out=true)(h2:rs.all (pG md (is.length+nn))=true)(h3:fI (out.map (·.1))=true):
 LT P L (.call {callee:=.value (.func f),args:=args.toArray,argTypes:=ats}) ty ⟨nn,eX md is L.nx out++gW is,[]⟩ (some (o7 (rs.map (kI md is L.nx)))):=L5 md is nn c ha (fun _ _ _ h=>h) hl hb hn h1 h2 h3
end
open Go Go.RowKit Go.X
variable [eT]
class aO {α:Type} (r:bP α)where
 cl:Bool->α->List Lf
 op:∀{ν:Nu} {H:Bool->Hp} {κ:Bool} {vs:List Value} {x:α},r.R (H κ) vs x->cR ν H (cl κ x) vs
 co:∀{ν:Nu} {H:Bool->Hp} {κ:Bool} {vs:List Value} {x:α},cR ν H (cl κ x) vs->r.R (H κ) vs x
instance {k:IntKind}:aO (aD k):=⟨fun _ x=>[.v (.int k x)],fun h=>⟨_,[],h,⟨rfl,rfl⟩,rfl⟩,fun⟨_,_,h1,h2,h3⟩=>by rw[h1,h2.1,show _=[] from h3];rfl⟩
instance:aO Ao:=⟨fun _ x=>[.v (.bool x)],fun h=>⟨_,[],h,⟨rfl,rfl⟩,rfl⟩,fun⟨_,_,h1,h2,h3⟩=>by rw[h1,h2.1,show _=[] from h3];rfl⟩
instance:aO gH:=⟨fun _ x=>[.v (.string (s8 x))],fun h=>⟨_,[],h,⟨rfl,rfl⟩,rfl⟩,fun⟨_,_,h1,h2,h3⟩=>by rw[h1,h2.1,show _=[] from h3];rfl⟩
instance {α:Type}{r:bP α}:aO (aU r):=⟨fun κ x=>[.ro r κ x],fun⟨v,h1,h2⟩=>⟨v,[],h1,h2,rfl⟩,fun⟨v,_,h1,h2,h3⟩=>⟨v,by rw[h1,show _=[] from h3],h2⟩⟩
abbrev sI(k:IntKind)(x:Int):S1:=.lf (.v (.int k x))
abbrev sB(x:Bool):S1:=.lf (.v (.bool x))
abbrev sT(x:List UInt8):S1:=.lf (.v (.string (s8 x)))
abbrev sR{α:Type}(r:bP α)(κ:Bool)(xs:List α):S1:=.lf (.ro r κ xs)
abbrev sA{α:Type}(r:bP α)[aO r](κ:Bool)(x:α):S1:=.agg (aO.cl r κ x)
abbrev sO(i:Nat):S1:=.lf (.own i)
abbrev lI(k:IntKind)(x:Int):Lf:=.v (.int k x)
abbrev lB(x:Bool):Lf:=.v (.bool x)
abbrev lN:Lf:=.v (.slice none 0 0)
abbrev vl(t:Nat)(l:Lf):Nat×Option Sv:=(t,some (.s (.lf l)))
abbrev vi(t:Nat)(x:Int):Nat×Option Sv:=(t,some (.s (sI .i64 x)))
abbrev vk(t:Nat)(k:IntKind)(x:Int):Nat×Option Sv:=(t,some (.s (sI k x)))
abbrev vb(t:Nat)(x:Bool):Nat×Option Sv:=(t,some (.s (sB x)))
abbrev vt(t:Nat)(x:List UInt8):Nat×Option Sv:=(t,some (.s (sT x)))
abbrev vr(t:Nat){α:Type}(r:bP α)(κ:Bool)(xs:List α):Nat×Option Sv:=(t,some (.s (sR r κ xs)))
abbrev vo(t i:Nat):Nat×Option Sv:=(t,some (.s (.lf (.own i))))
abbrev vp(t i:Nat):Nat×Option Sv:=(t,some (.s (.lf (.ptr i 0))))
section
variable {P:Program} {tb:List (dG P)} {L:SS} {o:Oper} {ef:Ef} {sv:Option Sv} {K:Ef->Option Sv->Prop}
theorem cr.of(h:LT P L o.op o.type ef sv)(nx:K ef sv):cr tb o L K:=⟨ef,sv,h,nx⟩
theorem iI{t s:Nat}{T:dG P}(h:cC tb t=some T)(hs:T.sz=s):TI P t s T.qA T.z:=by subst hs;exact fQ h
theorem gi{t:Nat}{T:dG P}{d:TypeDesc}(h:cC tb t=some T)(hd:T.d=d):P.underlying t=some d:=by subst hd;exact gk h
structure Vw (L:SS)(ef:Ef):Prop where
 ok:∀(X:Nat->Prop) (w0:World) (H0:Bool->Hp) (ν:Nu) (oF:OF) (e:Env) (w:World),(∀i ob,aQ L.bC i=some ob->oF i=some ob)->(∀k,L.nx<=k->k<L.nx+ef.n->ν k=none)->cH X w0 H0 ν oF w->di ν (HF X w0 H0 ν oF w) (aQ L.bQ) e->
  ∃ν',iA L.nx ef.n ν ν'/\cH X w0 H0 ν' (bG ef.up oF) w/\(∀κ,Le (HF X w0 H0 ν oF w κ) (HF X w0 H0 ν' (bG ef.up oF) w κ))/\di ν' (HF X w0 H0 ν' (bG ef.up oF) w) (aQ ef.sl) e
def Ef.comp(a b:Ef):Ef:=⟨a.n+b.n,b.up++a.up,b.sl++a.sl⟩
theorem oD{α:Type 1}:∀{l r:List (Nat×Option α)} {f:Nat->Option α},bG (l++r) f=bG l (bG r f)
 |[],_,_=>rfl
 |(d,s)::l,r,f=>by funext t;show(bif _ then _ else bG (l++r) f t)=(bif _ then _ else bG l (bG r f) t);rw[oD]
theorem Kz{α:Type 1}{l:List (Nat×Option α)}{f g:Nat->Option α}(h:∀i x,f i=some x->g i=some x):∀i x,bG l f i=some x->bG l g i=some x:=by
 intro i x hx;cases hm:bZ i (l.map (·.1))with
 |true=>rw[<-hx];exact pY hm
 |false=>rw[jM hm]at hx⊢;exact h i x hx
theorem po{a:Ef}(v:Vw L a)(h:cr tb o (L.lF a) fun ef sv=>K (a.comp ef) sv):cr tb o L K:=by
 obtain⟨ef,sv,hl,hk⟩:=h.ok;refine⟨a.comp ef,sv,⟨fun X w0 H0 ν oF e w ho hn hS hs=>?_⟩,hk⟩;obtain⟨ν1,g1,g2,g3,g4⟩:=v.ok X w0 H0 ν oF e w ho (fun k h1 h2=>hn k h1 (by show k<L.nx+(a.n+ef.n);omega)) hS hs;have hle:=g1.le (fun k h1 h2=>hn k h1 (by show k<L.nx+(a.n+ef.n);omega));refine(hl.ok X w0 H0 ν1 (bG a.up oF) e w (by rw[oT];exact Kz ho) (fun k h1 h2=>?_) g2 (by rw[rQ];exact(hs.mono hle g3).ap g4)).mono ?_
 . have h1:L.nx+a.n<=k:=h1;have h2:k<L.nx+a.n+ef.n:=h2;rw[g1 k (.inr h1)];exact hn k (by omega) (by show k<L.nx+(a.n+ef.n);omega)
 . rintro v w' ⟨ν2,q1,q2,q3,q4,q5⟩;rw[<-oD]at q2 q3 q4 q5;have hle2:eQ ν1 ν2:=q1.le (fun k h1 h2=>by
    have h1:L.nx+a.n<=k:=h1;have h2:k<L.nx+a.n+ef.n:=h2;rw[g1 k (.inr h1)];exact hn k (by omega) (by show k<L.nx+(a.n+ef.n);omega))
   refine⟨ν2,fun k hk=>?_,q2,fun κ=>Le.trans (g3 κ) (q3 κ),?_,q5⟩
   . rw[q1 k (by have:k<L.nx\/L.nx+(a.n+ef.n)<=k:=hk;show k<L.nx+a.n\/L.nx+a.n+ef.n<=k;omega),g1 k (by have:k<L.nx\/L.nx+(a.n+ef.n)<=k:=hk;omega)]
   . have e1:aQ (a.comp ef).sl=bG ef.sl (aQ a.sl):=by funext t;exact qm _ _ _
     rw[e1];exact(g4.mono hle2 q3).ap q4
theorem Vw.st{F:Fx}{a:Ef}(v:Vw L a){e:Env}{w:World}(h:St F L e w):St F (L.lF a) e w:=by
 obtain⟨ν,h1,h2,h3,h4,h5⟩:=h;obtain⟨ν',g1,g2,g3,g4⟩:=v.ok F.X F.w0 F.H0 ν (aQ L.bC) e w (fun _ _ h=>h) (fun k hk _=>h1 k hk) h4 h5;refine⟨ν',fun k hk=>?_,?_,fun k hk=>?_,by rw[oT];exact g2,?_⟩
 . have hk:L.nx+a.n<=k:=hk;rw[g1 k (.inr hk)];exact h1 k (by omega)
 . show F.m<=L.nx+a.n;omega
 . rw[g1 k (.inl (by omega))];exact h3 k hk
 . rw[oT,rQ];exact(h5.mono (g1.le fun k hk _=>h1 k hk) g3).ap g4
theorem ps{F:Fx}{a:Ef}{k:List It}(v:Vw L a)(nx:jm tb F k (L.lF a)):jm tb F k L:=⟨fun e w hs=>nx.ok e w (v.st hs)⟩
theorem pk{F:Fx}{a:Ef}{J:Env->World->Prop}(v:Vw L a)(nx:tO tb F J (L.lF a)):tO tb F J L:=⟨fun e w hs=>nx.ok e w (v.st hs)⟩
theorem pr{F:Fx}{a:Ef}(v:Vw L a)(nx:uO tb F (L.lF a)):uO tb F L:=⟨fun e w hs=>nx.ok e w (v.st hs)⟩
theorem Br{w:World}:Go.X.Loc [] [] w w [none] [.cells []]:=(nu (w:=w)).Oj.1
theorem nl{α:Type}(t:Nat)(rp:bP α)(ht:aQ L.bQ t=some (.s (.lf (.v (.slice none 0 0)))):=by rfl)(hz:(rp.sz==0)=false:=by rfl):Vw L ⟨1,[(L.nx,some (.row rp true []))],[(t,some (.s (.lf (.own L.nx))))]⟩:=by
 refine⟨fun X w0 H0 ν oF e w ho hn hS hs=>?_⟩;have hx:=hn L.nx (bK _) (by show L.nx<L.nx+1;omega);obtain⟨g1,g2⟩:=hS.new (ob:=.row rp true []) (c:=0) (n:=0) rfl hx Br (fun H' _=>⟨rfl,hz,[],[],rfl,rfl,by simp⟩);refine⟨_,oQ,g1,g2,fun t' sv h=>?_⟩;have h:(bif Nat.beq t' t then some (Sv.s (.lf (.own L.nx)))else none)=some sv:=h;cases hb:Nat.beq t' t with
 |false=>rw[hb]at h;cases h
 |true=>
  rw[hb]at h;cases h;have:=dH hb;subst this;exact⟨none,0,0,kQ,(hs _ _ ht).1⟩
theorem nv{α:Type}(t off:Nat)(rp:bP α){l:List Lf}(ht:aQ L.bQ t=some (.s (.agg l)):=by rfl)(hl:l[off]?=some (.v (.slice none 0 0)):=by rfl)(hz:(rp.sz==0)=false:=by rfl):Vw L ⟨1,[(L.nx,some (.row rp true []))],[(t,some (.s (.agg (l.set off (.own L.nx)))))]⟩:=by
 refine⟨fun X w0 H0 ν oF e w ho hn hS hs=>?_⟩;have hx:=hn L.nx (bK _) (by show L.nx<L.nx+1;omega);obtain⟨g1,g2⟩:=hS.new (ob:=.row rp true []) (c:=0) (n:=0) rfl hx Br (fun H' _=>⟨rfl,hz,[],[],rfl,rfl,by simp⟩);refine⟨_,oQ,g1,g2,fun t' sv h=>?_⟩;have h:(bif Nat.beq t' t then some (Sv.s (.agg (l.set off (.own L.nx))))else none)=some sv:=h;cases hb:Nat.beq t' t with
 |false=>rw[hb]at h;cases h
 |true=>
  rw[hb]at h;cases h;have:=dH hb;subst this;obtain⟨vs,q1,q2⟩:=hs _ _ ht;obtain⟨y,q3,q4⟩:=q2.get hl;have:=(q2.mono (yk hx) g2).set (i:=off) (x:=.own L.nx) (y:=y) ⟨none,0,0,kQ,q4.1⟩;refine⟨vs,q1,?_⟩;have e:vs.set off y=vs:=by
   apply pN;intro q;rw[qS];split
   . rename_i hq;subst hq;obtain⟨hlt,hv⟩:=dU.1 q3;rw[if_pos hlt,q3]
   . rfl
  rw[e]at this;exact this
theorem vM{α:Type}{vs:List α}{off:Nat}{y:α}(h:vs[off]?=some y):vs.set off y=vs:=by
 apply pN;intro q;rw[qS];split
 . rename_i hq;subst hq;obtain⟨hlt,hv⟩:=dU.1 h;rw[if_pos hlt,h]
 . rfl
theorem cH.review{X:Nat->Prop}{w0 w:World}{H0:Bool->Hp}{ν:Nu}{oF:OF}(hS:cH X w0 H0 ν oF w){up:List (Nat×Option Ob)}(h:∀i o,(i,o)∈up->∃ob ob',o=some ob'/\oF i=some ob/\ob'.tid=ob.tid/\∀c n k,ob.R ν (HF X w0 H0 ν oF w) c n k->ob'.R ν (HF X w0 H0 ν oF w) c n k):
 cH X w0 H0 ν (bG up oF) w/\HF X w0 H0 ν (bG up oF) w=HF X w0 H0 ν oF w:=by
 have ow:∀b,Ow ν (bG up oF) b↔Ow ν oF b:=by
  intro b;constructor
  . rintro⟨i,ob,g1,g2⟩;rcases jC g1 with g|⟨g,_⟩
    . obtain⟨ob1,ob2,q1,q2,qt,_⟩:=h _ _ g;cases q1;exact⟨i,ob1,q2,by unfold fN gV at g2⊢;rw[<-qt];exact g2⟩
    . exact⟨i,ob,g,g2⟩
  . rintro⟨i,ob,g1,g2⟩;cases hm:bZ i (up.map (·.1))with
    |false=>exact⟨i,ob,by rw[jM hm];exact g1,g2⟩
    |true=>
     cases ha:bG up oF i with
     |some ob'=>
      refine⟨i,ob',ha,?_⟩;rcases jC ha with g|⟨g,_⟩
      . obtain⟨ob1,ob2,q1,q2,qt,_⟩:=h _ _ g;cases q1;rw[g1]at q2;cases q2;unfold fN gV at g2⊢;rw[qt];exact g2
      . rw[g1]at g;cases g;exact g2
     |none=>
      exfalso;have key:∀{l:List (Nat×Option Ob)},(∀x∈l,x∈up)->bZ i (l.map (·.1))=true->bG l oF i≠none:=by
       intro l
       induction l with
       |nil=>intro _ h;cases h
       |cons y r ih=>
        obtain⟨d,s⟩:=y;intro hsub hm hn;have hn:(bif Nat.beq i d then s else bG r oF i)=none:=hn;cases hb:Nat.beq i d with
        |true=>
         rw[hb]at hn;obtain⟨ob1,ob2,q1,_⟩:=h d s (hsub _ cK);rw[q1]at hn;cases hn
        |false=>
         rw[hb]at hn;simp only[jY,bZ,hb,Bool.false_or]at hm;exact ih (fun x hx=>hsub x (cG _ hx)) hm hn
      exact key (fun _ h=>h) hm ha
 have e:HF X w0 H0 ν (bG up oF) w=HF X w0 H0 ν oF w:=by
  funext κ b;unfold HF;by_cases hb:Ow ν oF b
  . simp only[(ow b).2 hb,hb,if_true]
  . have:¬Ow ν (bG up oF) b:=fun h=>hb ((ow b).1 h);simp only[this,hb,if_false]
 have at':∀i ob,bG up oF i=some ob->∃ob0,oF i=some ob0/\ob.tid=ob0.tid/\∀c n k,ob0.R ν (HF X w0 H0 ν oF w) c n k->ob.R ν (HF X w0 H0 ν oF w) c n k:=by
  intro i ob g;rcases jC g with g|⟨g,_⟩
  . obtain⟨ob1,ob2,q1,q2,qt,q3⟩:=h _ _ g;cases q1;exact⟨ob1,q2,qt,q3⟩
  . exact⟨ob,g,rfl,fun _ _ _ h=>h⟩
 have owt:∀{i:Nat} {a b:Ob} {q:Nat},a.tid=b.tid->fN ν i a q->fN ν i b q:=fun ht h=>by unfold fN gV at h⊢;rw[<-ht];exact h
 refine⟨⟨hS.os,hS.tape,hS.output,hS.size,hS.keep,hS.h0,hS.nc,hS.pv,fun i ob g=>?_,fun i ob b g hb=>?_,fun i j oi oj b g g' h1 h2=>?_,fun i ob g=>?_⟩,e⟩
 . obtain⟨ob0,q1,_,q2⟩:=at' i ob g;obtain⟨b,c,n,k,k1,k2,k3⟩:=hS.cS i ob0 q1;exact⟨b,c,n,k,k1,k2,by rw[e];exact q2 c n k k3⟩
 . obtain⟨ob0,q1,ht,_⟩:=at' i ob g;exact hS.fresh i ob0 b q1 (owt ht hb)
 . obtain⟨o0,q1,ht,_⟩:=at' i oi g;obtain⟨o1,q2,ht',_⟩:=at' j oj g';exact hS.gB i j o0 o1 b q1 q2 (owt ht h1) (owt ht' h2)
 . obtain⟨ob0,q1,ht,_⟩:=at' i ob g;obtain⟨p1,p2,p3⟩:=hS.parts i ob0 q1;have e:gV ν i ob=gV ν i ob0:=by unfold gV;rw[ht]
   exact⟨fun t h=>p1 t (by rw[<-e];exact h),fun b t hb h=>p2 b t hb (by rw[<-e];exact h),fun j hj=>p3 j (by rw[<-ht];exact hj)⟩
theorem nb{α:Type}(i off:Nat)(rp:bP α){l:List Lf}(hi:aQ L.bC i=some (.box l):=by rfl)(hl:l[off]?=some (.v (.slice none 0 0)):=by rfl)(hne:Nat.beq i L.nx=false:=by rfl)(hz:(rp.sz==0)=false:=by rfl):Vw L ⟨1,[(i,some (.box (l.set off (.own L.nx)))),(L.nx,some (.row rp true []))],[]⟩:=by
 refine⟨fun X w0 H0 ν oF e w ho hn hS hs=>?_⟩;have hx:=hn L.nx (bK _) (by show L.nx<L.nx+1;omega);obtain⟨g1,g2⟩:=hS.new (ob:=.row rp true []) (c:=0) (n:=0) rfl hx Br (fun H' _=>⟨rfl,hz,[],[],rfl,rfl,by simp⟩);have hoi:bG [(L.nx,some (Ob.row rp true []))] oF i=some (.box l):=by
  show(bif Nat.beq i L.nx then _ else oF i)=_;rw[hne];exact ho _ _ hi
 obtain⟨k1,k2⟩:=g1.review (up:=[(i,some (.box (l.set off (.own L.nx))))]) (fun j o hj=>by
  simp only[cI,nm]at hj;obtain⟨rfl,rfl⟩:=hj;refine⟨.box l,_,rfl,hoi,rfl,?_⟩;rintro c n k ⟨vs,q1,q2⟩;obtain⟨y,q3,q4⟩:=q2.get hl;have:=q2.set (i:=off) (x:=.own L.nx) (y:=y) ⟨none,0,0,kQ,q4.1⟩;rw[vM q3]at this;exact⟨vs,q1,this⟩)
 refine⟨_,oQ,k1,fun κ=>?_,mw⟩;have:HF X w0 H0 (iY ν L.nx (none,0,0)) (bG [(i,some (Ob.box (l.set off (.own L.nx)))),(L.nx,some (.row rp true []))] oF) w=HF X w0 H0 (iY ν L.nx (none,0,0)) (bG [(L.nx,some (.row rp true []))] oF) w:=k2;rw[this];exact g2 κ
def pL(j:Nat)(y:Lf):Lf->Lf
 |.own i=>bif Nat.beq i j then y else .own i
 |l=>l
def fz1(j:Nat)(y:Lf):S1->S1
 |.lf l=>.lf (pL j y l)
 |.agg l=>.agg (l.map (pL j y))
def fzV(j:Nat)(y:Lf):Sv->Sv
 |.s x=>.s (fz1 j y x)
 |.fp l=>.fp (l.map (fz1 j y))
 |.pr κ c off=>.pr κ (c.map (pL j y)) off
 |.pw i r xs x ix off=>.pw i r xs x ix off
 |.fc f ps=>.fc f ps
 |.pa i r κ xs x ix off=>.pa i r κ xs x ix off
def rk(j:Nat)(y:Lf)(f:SF):List (Nat×Option Sv)->List (Nat×Option Sv)
 |[]=>[]
 |(t,_)::r=>match f t with
  |some s=>bif bZ j (EK (some s))then(t,some (fzV j y s))::rk j y f r else rk j y f r
  |none=>rk j y f r
def rW(j:Nat)(y:Lf)(f:OF):List (Nat×Option Ob)->List (Nat×Option Ob)
 |[]=>[]
 |(i,_)::r=>match f i with
  |some (.box l)=>bif bZ j (vD l)then(i,some (.box (l.map (pL j y))))::rW j y f r else rW j y f r
  |_=>rW j y f r
section
variable {ν:Nu} {H:Bool->Hp} {j:Nat} {y:Lf}
theorem Lg(h:∀a,(Lf.own j).R ν H a->y.R ν H a){l:Lf}{a:Value}(hr:l.R ν H a):(pL j y l).R ν H a:=by
 cases l with
 |own i=>
  show Lf.R ν H (bif Nat.beq i j then y else .own i) a;cases hb:Nat.beq i j with
  |true=>have:=dH hb;subst this;exact h a hr
  |false=>exact hr
 |_=>exact hr
theorem ym(h:∀a,(Lf.own j).R ν H a->y.R ν H a):∀{l:List Lf} {a:List Value},cR ν H l a->cR ν H (l.map (pL j y)) a
 |[],_,hr=>hr
 |_::_,_,⟨a,az,h1,h2,h3⟩=>⟨a,az,h1,Lg h h2,ym h h3⟩
theorem Lt(h:∀a,(Lf.own j).R ν H a->y.R ν H a):∀{l:S1} {a:Value},l.R ν H a->(fz1 j y l).R ν H a
 |.lf _,_,hr=>Lg h hr
 |.agg _,_,⟨vs,h1,h2⟩=>⟨vs,h1,ym h h2⟩
theorem IM(h:∀a,(Lf.own j).R ν H a->y.R ν H a):∀{l:List S1} {a:List Value},dO ν H l a->dO ν H (l.map (fz1 j y)) a
 |[],_,hr=>hr
 |_::_,_,⟨a,az,h1,h2,h3⟩=>⟨a,az,h1,Lt h h2,IM h h3⟩
theorem LH(h:∀a,(Lf.own j).R ν H a->y.R ν H a):∀{l:Sv} {a:Value},l.R ν H a->(fzV j y l).R ν H a
 |.s _,_,hr=>Lt h hr
 |.fp _,_,⟨vs,h1,h2⟩=>⟨vs,h1,IM h h2⟩
 |.pr κ _ _,_,⟨b,o,vs,h1,h2,h3⟩=>⟨b,o,vs,h1,h2,ym h h3⟩
 |.pw ..,_,hr=>hr
 |.fc ..,_,hr=>hr
 |.pa ..,_,hr=>hr
theorem Bt(h:∀a,(Lf.own j).R ν H a->y.R ν H a){f:SF}{e:Env}(hs:di ν H f e):∀{l:List (Nat×Option Sv)},di ν H (aQ (rk j y f l)) e
 |[]=>fun t sv ht=>by cases ht
 |(t,_)::r=>by
  simp only[rk];split
  . rename_i s hf;cases hm:bZ j (EK (some s))with
    |false=>exact Bt h hs
    |true=>
     intro t' sv ht;have ht:(bif Nat.beq t' t then some (fzV j y s)else aQ (rk j y f r) t')=some sv:=ht;cases hb:Nat.beq t' t with
     |true=>rw[hb]at ht;cases ht;have:=dH hb;subst this;exact LH h (hs _ _ hf)
     |false=>rw[hb]at ht;exact Bt h hs (l:=r) t' sv ht
  . exact Bt h hs
theorem As{f:OF}:∀{l:List (Nat×Option Ob)} {i:Nat} {o:Option Ob},(i,o)∈rW j y f l->∃c,f i=some (.box c)/\o=some (.box (c.map (pL j y)))
 |[],_,_,h=>by cases h
 |(k,_)::r,i,o,h=>by
  simp only[rW]at h;split at h
  . rename_i l hl;cases hm:bZ j (vD l)with
    |false=>rw[hm]at h;exact As h
    |true=>
     rw[hm]at h;rcases dT.1 h with e|e
     . cases e;exact⟨l,hl,rfl⟩
     . exact As e
  . exact As h
end
def dls{α:Type 1}:List Nat->List (Nat×Option α)
 |[]=>[]
 |i::r=>(i,none)::dls r
def fzB(j:Nat)(y:Lf):Option Ob->Option Ob
 |some (.box l)=>some (.box (l.map (pL j y)))
 |o=>o
def fzS(j:Nat)(y:Lf):Option Sv->Option Sv
 |some s=>some (fzV j y s)
 |none=>none
def AL(j:Nat)(y:Lf)(f:OF):List Nat->List (Nat×Option Ob)
 |[]=>[]
 |i::r=>(i,fzB j y (f i))::AL j y f r
def Bv(j:Nat)(y:Lf)(f:SF):List Nat->List (Nat×Option Sv)
 |[]=>[]
 |t::r=>(t,fzS j y (f t))::Bv j y f r
def BR(f:OF):List Nat->Bool
 |[]=>true
 |i::r=>(match f i with|some (.box _)=>true|_=>false)&&BR f r
theorem I5{j:Nat}{y:Lf}{f:OF}:∀{l:List Nat} {i:Nat} {o:Option Ob},BR f l=true->(i,o)∈AL j y f l->∃c,f i=some (.box c)/\o=some (.box (c.map (pL j y)))
 |[],_,_,_,h=>by cases h
 |k::r,i,o,hb,h=>by
  simp only[BR,fG]at hb;rcases dT.1 h with e|e
  . cases e;have h1:=hb.1;split at h1
    . rename_i c hc;exact⟨c,hc,by rw[hc];rfl⟩
    . cases h1
  . exact I5 hb.2 e
theorem MF{ν:Nu}{H:Bool->Hp}{j:Nat}{y:Lf}(h:∀a,(Lf.own j).R ν H a->y.R ν H a){f:SF}{e:Env}(hs:di ν H f e):∀{l:List Nat},di ν H (aQ (Bv j y f l)) e
 |[]=>fun t sv ht=>by cases ht
 |t::r=>by
  intro t' sv ht;have ht:(bif Nat.beq t' t then fzS j y (f t)else aQ (Bv j y f r) t')=some sv:=ht;cases hb:Nat.beq t' t with
  |true=>
   rw[hb]at ht;have:=dH hb;subst this;cases hf:f t' with
   |none=>rw[hf]at ht;cases ht
   |some s=>rw[hf]at ht;cases ht;exact LH h (hs _ _ hf)
  |false=>rw[hb]at ht;exact MF h hs (l:=r) t' sv ht
theorem jy{α:Type}(j:Nat)(ts is:List Nat){rp:bP α}{κ:Bool}{xs:List α}(hj:aQ L.bC j=some (.row rp κ xs):=by rfl):
 Vw L ⟨0,rW j (.ro rp κ xs) (aQ L.bC) (dls is)++[(j,none)],rk j (.ro rp κ xs) (aQ L.bQ) (dls ts)⟩:=by
 refine⟨fun X w0 H0 ν oF e w ho hn hS hs=>?_⟩;obtain⟨b,c,n,kk,q1,q2,e1,e0,cs,sp,e2,e3,e4⟩:=hS.cS j _ (ho j _ hj);subst e2;obtain⟨g1,g2⟩:=hS.go (T:=[j]) (O:=[b]) (new:=[]) (oF':=bG [(j,none)] oF) (ν':=ν) (fun b' hb=>by simp only[cI]at hb;exact⟨j,by simp,_,ho j _ hj,by rw[eE q1,hb]⟩) ((jq q2).drop 0).1 (eQ.refl ν) rfl (by simp)
  (fun i o h=>by
   rcases jC h with h|⟨h,h2⟩
   . simp at h
   . refine .inl ⟨h,fun hm=>?_⟩;simp only[cI]at hm;subst hm;simp[bZ]at h2)
  (fun _ x hx=>by cases hx) (fun x hx=>by cases hx) ⟨rfl,rfl⟩
 have hy:∀a,(Lf.own j).R ν (HF X w0 H0 ν (bG [(j,none)] oF) w) a->(Lf.ro rp κ xs).R ν (HF X w0 H0 ν (bG [(j,none)] oF) w) a:=by
  rintro a ⟨b',c',n',r1,rfl⟩;rw[q1]at r1;cases r1;cases b with
  |none=>exact qv q2 e3 e0
  |some b=>
   have hno:¬Ow ν (bG [(j,none)] oF) b:=by
    rintro⟨i,ob,r2,r3⟩;rcases jC r2 with h|⟨h,h2⟩
    . simp at h
    . have:=hS.gB i j ob _ b h (ho j _ hj) r3 (.inl (eE q1));subst this;simp[bZ]at h2
   exact wm (oH q2 fun q hq=>kY (hS.fresh j _ b (ho j _ hj) (.inl (eE q1))) hno (vd q2 hq)) (e3.mono (g2 κ)) e0 rfl e1 e4
 obtain⟨k1,k2⟩:=g1.review (up:=rW j (.ro rp κ xs) (aQ L.bC) (dls is)) (fun i o h=>by
  obtain⟨l,r1,r2⟩:=As h;refine⟨.box l,_,r2,?_,rfl,?_⟩
  . have hne:i≠j:=by rintro rfl;rw[hj]at r1;cases r1
    show(bif Nat.beq i j then none else oF i)=_;have:Nat.beq i j=false:=by
     cases hb:Nat.beq i j with
     |false=>rfl
     |true=>exact absurd (dH hb) hne
    rw[this];exact ho i _ r1
  . rintro c n k ⟨vs,r3,r4⟩;exact⟨vs,r3,ym hy r4⟩)
 rw[<-oD]at k1 k2;refine⟨ν,iA.refl,k1,fun κ=>by rw[k2];exact g2 κ,?_⟩;rw[k2];exact Bt hy (hs.mono (eQ.refl ν) g2)
theorem dD{α:Type}(j:Nat)(ts is:List Nat){rp:bP α}{κ:Bool}{xs:List α}(hj:aQ L.bC j=some (.row rp κ xs):=by rfl)(hb:BR (aQ L.bC) is=true:=by rfl):
 Vw L ⟨0,AL j (.ro rp κ xs) (aQ L.bC) is++[(j,none)],Bv j (.ro rp κ xs) (aQ L.bQ) ts⟩:=by
 refine⟨fun X w0 H0 ν oF e w ho hn hS hs=>?_⟩;obtain⟨b,c,n,kk,q1,q2,e1,e0,cs,sp,e2,e3,e4⟩:=hS.cS j _ (ho j _ hj);subst e2;obtain⟨g1,g2⟩:=hS.go (T:=[j]) (O:=[b]) (new:=[]) (oF':=bG [(j,none)] oF) (ν':=ν) (fun b' hb=>by simp only[cI]at hb;exact⟨j,by simp,_,ho j _ hj,by rw[eE q1,hb]⟩) ((jq q2).drop 0).1 (eQ.refl ν) rfl (by simp)
  (fun i o h=>by
   rcases jC h with h|⟨h,h2⟩
   . simp at h
   . refine .inl ⟨h,fun hm=>?_⟩;simp only[cI]at hm;subst hm;simp[bZ]at h2)
  (fun _ x hx=>by cases hx) (fun x hx=>by cases hx) ⟨rfl,rfl⟩
 have hy:∀a,(Lf.own j).R ν (HF X w0 H0 ν (bG [(j,none)] oF) w) a->(Lf.ro rp κ xs).R ν (HF X w0 H0 ν (bG [(j,none)] oF) w) a:=by
  rintro a ⟨b',c',n',r1,rfl⟩;rw[q1]at r1;cases r1;cases b with
  |none=>exact qv q2 e3 e0
  |some b=>
   have hno:¬Ow ν (bG [(j,none)] oF) b:=by
    rintro⟨i,ob,r2,r3⟩;rcases jC r2 with h|⟨h,h2⟩
    . simp at h
    . have:=hS.gB i j ob _ b h (ho j _ hj) r3 (.inl (eE q1));subst this;simp[bZ]at h2
   exact wm (oH q2 fun q hq=>kY (hS.fresh j _ b (ho j _ hj) (.inl (eE q1))) hno (vd q2 hq)) (e3.mono (g2 κ)) e0 rfl e1 e4
 obtain⟨k1,k2⟩:=g1.review (up:=AL j (.ro rp κ xs) (aQ L.bC) is) (fun i o h=>by
  obtain⟨l,r1,r2⟩:=I5 hb h;refine⟨.box l,_,r2,?_,rfl,?_⟩
  . have hne:i≠j:=by rintro rfl;rw[hj]at r1;cases r1
    show(bif Nat.beq i j then none else oF i)=_;have:Nat.beq i j=false:=by
     cases hb:Nat.beq i j with
     |false=>rfl
     |true=>exact absurd (dH hb) hne
    rw[this];exact ho i _ r1
  . rintro c n k ⟨vs,r3,r4⟩;exact⟨vs,r3,ym hy r4⟩)
 rw[<-oD]at k1 k2;refine⟨ν,iA.refl,k1,fun κ=>by rw[k2];exact g2 κ,?_⟩;rw[k2];exact MF hy (hs.mono (eQ.refl ν) g2)
end
open Go Go.RowKit Go.X
variable [eT]
def wkL:Lf->Lf->Option Lf
 |.ro r κ xs,.ro _ κ' _=>some (.ro r (wk κ κ') xs)
 |.cp r κ xs,.ro _ κ' _=>some (.ro r (wk κ κ') xs)
 |.v (.slice none 0 0),.ro r κ _=>some (.ro r κ [])
 |.v x,_=>some (.v x)
 |.pd q,_=>some (.pd q)
 |_,_=>none
def oW:List Lf->List Lf->Option (List Lf)
 |[],[]=>some []
 |a::r,b::s=>match wkL a b with
  |some x=>match oW r s with
   |some y=>some (x::y)
   |none=>none
  |none=>none
 |_,_=>none
section
variable {ν ν':Nu} {H:Bool->Hp}
theorem OG(hw:Le (H true) (H false)){x y l:Lf}{a:Value}(h:wkL x y=some l)(hr:x.R ν H a):l.R ν' H a:=by
 unfold wkL at h;split at h
 . cases h;exact Rs.mono hr (mE hw (fun _=>Le.refl _) _ _)
 . cases h;exact Rs.mono hr.1 (mE hw (fun _=>Le.refl _) _ _)
 . cases h;obtain⟨h1,_⟩:=hr;rw[h1];exact Rs.nil
 . cases h;exact hr
 . cases h;exact hr
 . cases h
theorem sq(hw:Le (H true) (H false)):∀{x y l:List Lf} {a:List Value},oW x y=some l->cR ν H x a->cR ν' H l a
 |[],[],l,a,h,hr=>by cases h;exact hr
 |x::r,y::s,l,a,h,hr=>by
  simp only[oW]at h;split at h
  . rename_i u hu;split at h
    . rename_i z hz;cases h;obtain⟨a,az,h1,h2,h3⟩:=hr;exact⟨a,az,h1,OG hw hu h2,sq hw hz h3⟩
    . cases h
  . cases h
 |[],_::_,_,_,h,_=>by cases h
 |_::_,[],_,_,h,_=>by cases h
end
def bW:Bool->Bool->Bool
 |false,true=>false
 |_,_=>true
theorem uR{H:Bool->Hp}(hw:Le (H true) (H false)):∀{κ κ':Bool},bW κ κ'=true->Le (H κ) (H κ')
 |true,true,_=>Le.refl _
 |true,false,_=>hw
 |false,false,_=>Le.refl _
 |false,true,h=>by cases h
def uN{α:Type}(rp:bP α):Prop:=∀(H H':Hp) (vs:List Value) (x:α),rp.R H vs x->rp.R H' vs x
theorem bq{α:Type}{g:Option α}{a:α}(h:g=some a):g.bind some=some a:=by rw[h];rfl
section
variable {P:Program} {tb:List (dG P)} {L:SS} {o:Oper} {K:Ef->Option Sv->Prop} {β:Type} {res:β} {t u el:TypeId} {x y:Operand} {T E:dG P} {kk:IntKind}
theorem bI{α:Type}{rp:bP α}[aO rp]{κ:Bool}{xs:List α}{i:Int}{f:α->Option β}(h:(idx xs i).bind f=some res)(nx:∀a,f a=some res->K .z (some (.pr κ (aO.cl rp κ a) 0)))
 (ho:o.op=.indexAddr t x y:=by rfl)(hx:bN L x=some (.s (.lf (.ro rp κ xs))):=by rfl)(hy:lv (bN L y)=some (.int kk i):=by rfl)(hT:cC tb t=some T:=by rfl)(hd:T.d=.slice el:=by rfl)(hE:cC tb el=some E:=by rfl)(hz:E.sz=rp.sz:=by rfl):cr tb o L K:=by
 obtain⟨a,q1,q2⟩:=bind_some h;obtain⟨n,q3,q4⟩:=sZ q1;refine cr.of (LT.look fun ν H e w hv ht hO hS=>?_) (nx a q2);rw[ho];have h1:Rs rp (H κ) (ev e x) xs:=cW hS hx;obtain⟨b,o',cap,vs,g1,g2,g3,g4⟩:=h1.get q4;exact aF.H5 (gi hT hd) (iI hE hz) rfl g1 (eJ hS hy).1 q3 q4 rfl ⟨rfl,b,o'+n*rp.sz,vs,rfl,g3,aO.op g4⟩
theorem vK{α:Type}{rp:bP α}{κ:Bool}{xs:List α}{j:Nat}{ν:Nu}{H:Bool->Hp}{w:World}(hO:∀i ob,aQ L.bC i=some ob->∃b c n k,ν i=some (b,c,n)/\dC w b k/\ob.R ν H c n k)(hj:aQ L.bC j=some (.row rp κ xs)):
 ∃b c cs sp,ν j=some (b,c,xs.length)/\dC w b (.cells ([]++(cs++sp)))/\bS rp (H κ) cs xs/\(cs++sp).length=c*rp.sz/\(rp.sz==0)=false:=by
 obtain⟨b,c,n,k,q1,q2,e1,e0,cs,sp,rfl,e3,e4⟩:=hO j _ hj;subst e1;exact⟨b,c,cs,sp,q1,q2,e3,e4,e0⟩
theorem zo{α:Type}{rp:bP α}{xs:List α}{w:World}{b:Option Nat}{cs sp:List Value}{H:Hp}{n:Nat}{a:α}(hc:dC w b (.cells ([]++(cs++sp))))(hE:bS rp H cs xs)(hz:(rp.sz==0)=false)(hn:xs[n]?=some a):∃b',b=some b':=by
  have hpos : 0 < rp.sz := by have : ¬ rp.sz = 0 := by simpa using hz
                              omega
  cases b with
  |some b=>exact⟨b,rfl⟩
  |none=>
    have hc:[]++(cs++sp)=[]:=hc;have:=wL (pre:=[]) (sp:=sp) hE hn hpos;rw[hc]at this;simp at this
theorem ct{α:Type}{rp:bP α}{κ:Bool}{xs:List α}{i:Int}{f:α->Option β}{j:Nat}(h:(idx xs i).bind f=some res)(nx:∀a,f a=some res->K .z (some (.pw j rp xs a i 0)))
 (ho:o.op=.indexAddr t x y:=by rfl)(hx:bN L x=some (.s (.lf (.own j))):=by rfl)(hj:aQ L.bC j=some (.row rp κ xs):=by rfl)(hy:lv (bN L y)=some (.int kk i):=by rfl)(hT:cC tb t=some T:=by rfl)(hd:T.d=.slice el:=by rfl)(hE:cC tb el=some E:=by rfl)(hz:E.sz=rp.sz:=by rfl):cr tb o L K:=by
 obtain⟨a,q1,q2⟩:=bind_some h;obtain⟨n,q3,q4⟩:=sZ q1;refine cr.of (LT.look fun ν H e w hv ht hO hS=>?_) (nx a q2);rw[ho];obtain⟨b,c,cs,sp,g1,g4,g5,g6,g7⟩:=vK hO hj;obtain⟨b',c',n',m1,m2⟩:(Lf.own j).R ν H (ev e x):=cW hS hx;rw[g1]at m1;cases m1;obtain⟨b,rfl⟩:=zo g4 g5 g7 q4;exact aF.Ds (r:=rp) (q:=n*rp.sz+0) (gi hT hd) (iI hE hz) m2 rfl (eJ hS hy).1 q3 (dU.1 q4).1 (by omega) ⟨rfl,b,_,n,g1,q3,q4,rfl⟩
theorem dI{α:Type}{rp:bP α}[aO rp]{κ:Bool}{xs:List α}{a:α}{i:Int}{j off:Nat}{s:S1}(nx:K .z (some (.s s)))
 (ho:o.op=.load t x:=by rfl)(hx:bN L x=some (.pw j rp xs a i off):=by rfl)(hj:aQ L.bC j=some (.row rp κ xs):=by rfl)(hT:cC tb t=some T:=by rfl)(hl:sh (iv T.d) T.sz (aO.cl rp κ a) off=some s:=by rfl):cr tb o L K:=by
 refine cr.of (LT.look fun ν H e w hv ht hO hS=>?_) nx;rw[ho];obtain⟨b,c,cs,sp,g1,g4,g5,g6,g7⟩:=vK hO hj;obtain⟨b',c',n',m1,m2,m3,m4⟩:=cW hS hx;rw[g1]at m1;cases m1;obtain⟨vs,v1,v2,v3⟩:=EO (pre:=[]) (sp:=sp) g5 m3;simp only[dM,eK]at v3;rcases tG hl (aO.op v2:cR ν H _ vs)with⟨h1,v,h2,h3⟩|⟨h1,us,h2,h3,h4⟩
 . have hp:=Av (us:=[v]) (q:=off) v3 (by
    rw[kq];obtain⟨hlt,hv⟩:=dU.1 h2;rw[eU hlt,hv];rfl)
   exact aF.Hw (gk hT) h1 m4 g4 hp ⟨rfl,h3⟩
 . exact aF.FL (gk hT) h1 (fQ hT) m4 g4 h2 (Av v3 h3) ⟨rfl,h4⟩
theorem dS{α:Type}(κn:Bool){rp:bP α}[aO rp]{κ:Bool}{xs xs0:List α}{a z:α}{i:Int}{f:List α->Option β}{j:Nat}{s:S1}(h:(dh xs i z).bind f=some res)(nx:∀Y,f Y=some res->K ⟨0,[(j,some (.row rp κn Y))],[]⟩ none)
 (ho:o.op=.store t x y:=by rfl)(hx:bN L x=some (.pw j rp xs0 a i 0):=by rfl)(hj:aQ L.bC j=some (.row rp κ xs):=by rfl)(hT:cC tb t=some T:=by rfl)(hz:T.sz=rp.sz:=by rfl)
 (hy:bN L y=some (.s s):=by rfl)(hw:oW (ky s) (aO.cl rp κn z)=some (aO.cl rp κn z):=by rfl)(hk:bW κ κn=true:=by rfl):cr tb o L K:=by
 obtain⟨Y,q1,q2⟩:=bind_some h;obtain⟨n,q3,q4,q5⟩:=D0 q1;refine cr.of (LT.md hj fun ν H e w b c n0 k0 hv ht hO hS p1 p2 p3=>?_) (nx Y q2);rw[ho];obtain⟨e1,g7,cs,sp,rfl,g5,g6⟩:=p3;obtain⟨b',c',n',m1,m2,m3,m4⟩:=cW hS hx;rw[p1]at m1;cases m1;obtain rfl:n'=n:=M5.1 (m2.symm.trans q3);obtain⟨vs,v1,v2⟩:=rY (cW hS hy);have v3:=sq (ν':=ν) ht hw v2;refine aF.Pg (pre:=[]) (H:=H κn) (iI hT hz) m4 rfl v1 (aO.co v3) (jq p2) 0 rfl rfl (g5.mono (uR ht hk)) q4 (by simp) q5 ?_;intro w' cs' hL' hst hE' hlen;refine⟨_,hL',fun H' hH=>⟨by rw[e1,q5,iS],g7,cs',sp,rfl,hE'.mono (hH κn),by rw[cM]at g6⊢;rw[hlen];exact g6⟩⟩
theorem stP{α:Type}{rp:bP α}[aO rp]{κ:Bool}{xs xs0:List α}{a a1 z:α}{i:Int}{f:List α->Option β}{j off:Nat}{s:S1}(h:(dh xs i z).bind f=some res)(nx:∀Y,f Y=some res->K ⟨0,[(j,some (.row rp κ Y))],[]⟩ none)
    (ha:idx xs i=some a1)
    (ho:o.op=.store t x y:=by rfl)(hx:bN L x=some (.pw j rp xs0 a i off):=by rfl)(hj:aQ L.bC j=some (.row rp κ xs):=by rfl)(hT:cC tb t=some T:=by rfl)
    (hy:bN L y=some (.s s):=by rfl)(hs:Nat.beq (ky s).length T.sz=true:=by rfl)(hf:Nat.ble (off+T.sz) rp.sz=true:=by rfl)(hw:oW (uZ (aO.cl rp κ a1) off (ky s)) (aO.cl rp κ z)=some (aO.cl rp κ z):=by rfl):cr tb o L K:=by
  obtain⟨Y,q1,q2⟩:=bind_some h;obtain⟨n,q3,q4,q5⟩:=D0 q1;obtain⟨n2,a2,a3⟩:=sZ ha;obtain rfl:n2=n:=M5.1 (a2.symm.trans q3);refine cr.of (LT.md hj fun ν H e w b c n0 k0 hv ht hO hS p1 p2 p3=>?_) (nx Y q2);rw[ho];obtain⟨e1,g7,cs,sp,rfl,g5,g6⟩:=p3;obtain⟨b',c',n',m1,m2,m3,m4⟩:=cW hS hx;rw[p1]at m1;cases m1;obtain rfl:n'=n2:=M5.1 (m2.symm.trans q3);obtain⟨us,v1,v2⟩:=rY (cW hS hy);have hsz:=dH hs;have hfit:=ku hf;obtain⟨vs,w1,w2,w3⟩:=EO (pre:=[]) (sp:=sp) g5 a3;simp only[dM,eK,iQ]at w3;have hul:=v2.length;have hcl:=g5.length;have hnl:n'<xs.length:=q4;have hmul:n'*rp.sz+rp.sz<=xs.length*rp.sz:=by
    have:=tm rp.sz (show n'+1<=xs.length from hnl);rwa[gL,yy]at this
  have hin:n'*rp.sz+off+us.length<=(cs++sp).length:=by
    rw[cM,hcl,hul,hsz];omega
  have v3:=sq (ν':=ν) ht hw (((aO.op w2:cR ν H _ vs)).put v2);have hput:∀(l:List Value) (p q:Nat) (us:List Value),q+us.length<=(l.drop p).length->putAt l (p+q) us=l.take p++putAt (l.drop p) q us:=by
    intro l p q us
    induction us generalizing l q with
    |nil=>intro _;simp[putAt]
    |cons u us ih=>
      intro hq;have hlp:p<=l.length:=by
        rcases cw l.length p with h|h
        . rw[Cf (B9 h)]at hq;simp at hq
        . exact h
      show putAt (l.set (p+q) u) (p+q+1) us=l.take p++putAt ((l.drop p).set q u) (q+1) us;rw[show p+q+1=p+(q+1) by omega,ih (l.set (p+q) u) (q+1) (by simp at hq⊢;omega)];congr 1
      . apply pN;intro m;simp only[vP];split
        . rw[vQ (by omega)]
        . rfl
      . congr 1;rw[List.drop_set];split
        . omega
        . congr 1;omega
  refine aF.store (fQ hT) m4 rfl v1 (by rw[hul,hsz]) v2.fj (jq p2) 0 rfl rfl (by simpa using hin) fun w' h1 h2=>?_;have key:putAt ([]++(cs++sp)) (n'*rp.sz+off) us=[]++(putAt cs (n'*rp.sz) (putAt vs off us)++sp):=by
    simp only[iQ];have hd:n'*rp.sz<=(cs++sp).length:=by rw[cM,hcl];omega
    have hvs:(cs.drop (n'*rp.sz)).take rp.sz=vs:=by
      have:=w3;rw[w1,Ca (by rw[hcl];omega),qV (by rw[oz,hcl];omega)]at this;exact this
    have hcs:cs=cs.take (n'*rp.sz)++(vs++cs.drop (n'*rp.sz+rp.sz)):=by
      conv=>lhs;rw[<-mn (n'*rp.sz) cs,<-mn rp.sz (cs.drop (n'*rp.sz)),hvs,qT]
    have pre_put:∀(us:List Value) (A B:List Value) (q:Nat),q+us.length<=B.length->putAt (A++B) (A.length+q) us=A++putAt B q us:=by
      intro us A B q hq;have:=hput (A++B) A.length q us (by rw[M6];exact hq);rw[this,List.take_left,M6]
    have post_put:∀(us:List Value) (A B:List Value) (q:Nat),q+us.length<=A.length->putAt (A++B) q us=putAt A q us++B:=by
      intro us
      induction us with
      |nil=>intro A B q _;rfl
      |cons u us ih=>
        intro A B q hq;simp only[cz]at hq;show putAt ((A++B).set q u) (q+1) us=putAt (A.set q u) (q+1) us++B;rw[List.set_append_left _ _ (by omega),ih _ _ _ (by simp;omega)]
    have plen:∀(us l:List Value) (q:Nat),(putAt l q us).length=l.length:=by
      intro us
      induction us with
      |nil=>intro l q;rfl
      |cons u us ih=>intro l q;show(putAt (l.set q u) (q+1) us).length=_;rw[ih];simp
    have hA:(cs.take (n'*rp.sz)).length=n'*rp.sz:=by rw[e9,hcl];omega
    have l1:putAt (cs++sp) (n'*rp.sz+off) us=putAt cs (n'*rp.sz+off) us++sp:=post_put us cs sp _ (by rw[hcl,hul,hsz];omega);have l2:putAt cs (n'*rp.sz+off) us=cs.take (n'*rp.sz)++(putAt vs off us++cs.drop (n'*rp.sz+rp.sz)):=by
      conv=>lhs;rw[hcs]
      have:=pre_put us (cs.take (n'*rp.sz)) (vs++cs.drop (n'*rp.sz+rp.sz)) off (by rw[cM,w1,hul,hsz];omega);rw[hA]at this;rw[this,post_put us vs _ off (by rw[w1,hul,hsz];omega)]
    have l3:putAt cs (n'*rp.sz) (putAt vs off us)=cs.take (n'*rp.sz)++(putAt vs off us++cs.drop (n'*rp.sz+rp.sz)):=by
      conv=>lhs;rw[hcs]
      have:=pre_put (putAt vs off us) (cs.take (n'*rp.sz)) (vs++cs.drop (n'*rp.sz+rp.sz)) 0 (by rw[plen,cM];omega);rw[hA,nj]at this;rw[this,post_put _ vs _ 0 (by rw[plen];omega)];congr 2;have full:∀(us l:List Value),us.length=l.length->putAt l 0 us=us:=by
        intro us l hl;have gen:∀(us A B:List Value),B.length=us.length->putAt (A++B) A.length us=A++us:=by
          intro us
          induction us with
          | nil => intro A B hB; obtain rfl : B = [] := by simpa using hB
                   rfl
          |cons u us ih=>
            intro A B hB;cases B with
            |nil=>simp at hB
            |cons b B=>
              show putAt ((A++b::B).set A.length u) (A.length+1) us=_;rw[Gu _ _ (bK _),ox];have:=ih (A++[u]) B (by simpa using hB);simp only[cM,kq,iq,M7]at this;exact this
        have:=gen us [] l hl.symm;simpa using this
      exact full _ _ (plen _ _ _)
    rw[l1,l2,l3]
  have h1:Go.X.Loc [some b'] [] w w' [some b'] [.cells (putAt ([]++(cs++sp)) (n'*rp.sz+off) us)]:=h1;rw[key]at h1;refine⟨_,h1,fun H' hH=>⟨by rw[e1,q5,iS],g7,_,sp,rfl,?_,?_⟩⟩
  . rw[q5];exact(g5.set (aO.co v3) hnl).mono (hH κ)
  . have plen:∀(us l:List Value) (q:Nat),(putAt l q us).length=l.length:=by
      intro us
      induction us with
      |nil=>intro l q;rfl
      |cons u us ih=>intro l q;show(putAt (l.set q u) (q+1) us).length=_;rw[ih];simp
    rw[cM,plen,<-cM];exact g6
theorem cl(md:Option Bool)(is:List Nat)(nn:Nat){ρ:Type}{g:Option ρ}{f:ρ->Option β}{fid:FuncId}{args:List Operand}{ats:Array TypeId}{ls az:List S1}{ib:List Ob}{out:ρ->List (Nat×Option Ob)}{rs:ρ->List S1}
 (h:g.bind f=some res)(c:∀r,g=some r->Cx P fid az ib (out r) (rs r))(nx:∀r,f r=some res->K ⟨nn,eX md is L.nx (out r)++gW is,[]⟩ (some (o7 ((rs r).map (kI md is L.nx)))))
 (ho:o.op=.call {callee:=.value (.func fid),args:=args.toArray,argTypes:=ats}:=by rfl)(ha:ot L args=some ls:=by rfl)(hl:kh md (aQ L.bC) is ls az=some az:=by rfl)(hb:iT md (aQ L.bC) is is ib=some ib:=by rfl)(hn:fI is=true:=by rfl)
 (h1:∀r,og md (is.length+nn) (out r)=true:=by intro r;rfl)(h2:∀r,(rs r).all (pG md (is.length+nn))=true:=by intro r;rfl)(h3:∀r,fI ((out r).map (·.1))=true:=by intro r;rfl):cr tb o L K:=by
 obtain⟨r,q1,q2⟩:=bind_some h;refine cr.of ?_ (nx r q2);rw[ho];exact Mt md is nn (c r q1) ha hl hb hn (h1 r) (h2 r) (h3 r)
inductive vg {α:Type}(L:SS)(rp:bP α)(κs:Bool)(ys:List α):Lf->Prop
 |ro:vg L rp κs ys (.ro rp κs ys)
 |own {j:Nat} (h:aQ L.bC j=some (.row rp κs ys)):vg L rp κs ys (.own j)
theorem Rs.srcH{α:Type}{r:bP α}{H:Hp}{w:World}{v:Value}{xs:List α}(hv:Le H (view [] w))(h:Rs r H v xs):∃cs,Src w v xs.length r.sz cs/\bS r H cs xs:=by
 rcases h with⟨h1,h2⟩|⟨b,o,cap,hv',hc,hxs⟩
 . subst h2;exact⟨[],⟨by simp,.inl ⟨h1,rfl⟩⟩,rfl⟩
 . obtain⟨cs,g1,g2⟩:=Rs.cells hxs;exact⟨cs,⟨g2.length,.inr ⟨b,o,cap,hv',fun j u hj=>xL (A:=[]) (xH hv (g1.get j hj))⟩⟩,g2⟩
theorem Ea{α:Type}{l:Lf}{rp:bP α}{κs κn:Bool}{ys:List α}{ν:Nu}{H:Bool->Hp}{w:World}{v:Value}(hv:∀κ,Le (H κ) (view [] w))(ht:Le (H true) (H false))(hO:∀i ob,aQ L.bC i=some ob->∃b c n k,ν i=some (b,c,n)/\dC w b k/\ob.R ν H c n k)
 (hs:vg L rp κs ys l)(hk:bW κs κn=true\/uN rp)(hl:l.R ν H v):∃ds,Src w v ys.length rp.sz ds/\bS rp (H κn) ds ys:=by
 have fin:∀ds,bS rp (H κs) ds ys->bS rp (H κn) ds ys:=fun ds hE=>by
  rcases hk with hk|hk
  . exact hE.mono (uR ht hk)
  . exact bS.DP hk hE
 cases hs with
 |ro=>
  obtain⟨ds,h1,h2⟩:=Rs.srcH (hv κs) hl;exact⟨ds,h1,fin ds h2⟩
 |own hj=>
  obtain⟨b,c,cs,sp,g1,g4,g5,g6,g7⟩:=vK hO hj;obtain⟨b',c',n',q1,rfl⟩:=hl;rw[g1]at q1;cases q1;exact⟨cs,Src.row g4 g5 g7 rfl rfl,fin cs g5⟩
theorem dR{α:Type}(κn:Bool){rp:bP α}{κ κs:Bool}{xs ys:List α}{bs:Nat}{f:List α->Option β}{a c:Operand}{j:Nat}{l:Lf}(h:(cN bs xs ys).bind f=some res)
 (nx:∀Y,f Y=some res->K ⟨1,[(L.nx,some (.row rp κn Y)),(j,none)],[]⟩ (some (.s (.lf (.own L.nx)))))
 (ho:o.op=.call {callee:=.builtin .append,args:=#[a,c],argTypes:=#[t,t]}:=by rfl) (ha:bN L a=some (.s (.lf (.own j))):=by rfl) (hj:aQ L.bC j=some (.row rp κ xs):=by rfl) (hc:bN L c=some (.s (.lf l)):=by rfl)
 (hs:vg L rp κs ys l:=by first|exact .ro|exact .own rfl) (hT:cC tb t=some T:=by rfl) (hd:T.d=.slice el:=by rfl) (hE:cC tb el=some E:=by rfl) (hz:E.sz=rp.sz:=by rfl) (hb:E.qA=bs:=by rfl) (hq:Nat.beq E.z.cells.size rp.sz=true:=by rfl)
 (hk:bW κ κn=true\/uN rp:=by first|exact .inl rfl|exact .inr fun _ _ _ _ h=>h) (hks:bW κs κn=true\/uN rp:=by first|exact .inl rfl|exact .inr fun _ _ _ _ h=>h):cr tb o L K:=by
 obtain⟨Y,q1,q2⟩:=bind_some h;obtain⟨q3,q4,q5⟩:=BX q1;refine cr.of (LT.rp hj fun ν H e w b cp n k0 hv ht hO hS p1 p2 p3=>?_) (nx Y q2);rw[ho];obtain⟨e1,g7,cs,sp,rfl,g5,g6⟩:=p3;obtain⟨b',c',n',m1,m2⟩:(Lf.own j).R ν H (ev e a):=cW hS ha;rw[p1]at m1;cases m1;obtain⟨ds,d1,d2⟩:=Ea hv ht hO hs hks (cW hS hc);subst hb;have g5':bS rp (H κn) cs xs:=by
  rcases hk with hk|hk
  . exact g5.mono (uR ht hk)
  . exact bS.DP hk g5
 refine aF.Hq (H:=H κn) (gi hT hd) (iI hE hz) (dH hq) g7 m2 rfl (jq p2) (i:=0) rfl rfl g5' e1 g6 d1 d2 q3 q4 q5 ?_;intro ob' cap' sp' ds' w' hE' hcap hL' hst;exact⟨ob',cap',Y.length,_,hL',fun ν' H' hν hH=>⟨rfl,g7,ds',sp',rfl,hE'.mono (hH κn),hcap⟩,fun ν' H' hν hH hn=>⟨ob',cap',Y.length,hn,rfl⟩⟩
theorem gx{α:Type}(rp:bP α)[aO rp]{z:α}{n:Int}{bs:Nat}{f:List α->Option β}{a c:Operand}{ka kc:IntKind}(h:(fX bs z n).bind f=some res)
 (nx:∀Y,f Y=some res->K ⟨1,[(L.nx,some (.row rp true Y))],[]⟩ (some (.s (.lf (.own L.nx)))))
 (ho:o.op=.makeSlice t a c:=by rfl)(ha:lv (bN L a)=some (.int ka n):=by rfl)(hc:lv (bN L c)=some (.int kc n):=by rfl)(hT:cC tb t=some T:=by rfl)(hd:T.d=.slice el:=by rfl)(hE:cC tb el=some E:=by rfl)(hz:E.sz=rp.sz:=by rfl)(hb:E.qA=bs:=by rfl)
 (h1:fj E.z.cells.toList=true:=by rfl)(hw:oW (E.z.cells.toList.map .v) (aO.cl rp true z)=some (aO.cl rp true z):=by rfl)(hr:(rp.sz==0)=false:=by rfl):cr tb o L K:=by
 obtain⟨Y,q1,q2⟩:=bind_some h;obtain⟨m,q3,q4,q5,q6⟩:=NM q1;refine cr.of (LT.nw fun ν H e w hv ht hO hS=>?_) (nx Y q2);rw[ho];subst hb;have hv':cR ν H (aO.cl rp true z) E.z.cells.toList:=sq (ν:=ν) ht hw (qc h1);refine aF.NK (H:=H true) (zc:=E.z.cells.toList) (gi hT hd) (iI hE hz) (by simp) (aO.co hv') (eJ hS ha).1 (eJ hS hc).1 q3 q4 q5 q6 (nu (w:=w)) ?_;intro b w' cs hE' hcap hL' hst;exact⟨some b,m,Y.length,_,hL',fun ν' H' hν hH=>⟨rfl,hr,cs,[],rfl,hE'.mono (hH true),hcap⟩,fun ν' H' hν hH hn=>⟨some b,m,Y.length,hn,rfl⟩⟩
def Ah(L:SS):Nat->List (Nat×Operand)->Option (List S1)
 |_,[]=>some []
 |i,(q,x)::r=>match Nat.beq q i with
  |true=>match bN L x with
   |some (.s s)=>match Ah L (i+1) r with
    |some y=>some (s::y)
    |none=>none
   |_=>none
  |false=>none
def Bk:List S1->List (List Lf)->Option (List (List Lf))
 |[],[]=>some []
 |s::r,c::t=>match oW (ky s) c with
  |some x=>match Bk r t with
   |some y=>some (x::y)
   |none=>none
  |none=>none
 |_,_=>none
theorem Jm{ν:Nu}{H:Bool->Hp}{e:Env}(hS:di ν H (aQ L.bQ) e):∀{parts:List (Nat×Operand)} {i:Nat} {ss:List S1},Ah L i parts=some ss->∃vs,(parts.map fun p=>(p.1,ev e p.2))=mb i vs/\dO ν H ss vs
 |[],i,_,h=>by cases h;exact⟨[],rfl,rfl⟩
 |(q,x)::r,i,_,h=>by
  simp only[Ah]at h;split at h
  . rename_i hq;split at h
    . rename_i s hx;split at h
      . rename_i y hy;cases h;obtain⟨vs,g1,g2⟩:=Jm hS hy;have:=dH hq;subst this;exact⟨ev e x::vs,by simp[mb,g1],_,_,rfl,cW hS hx,g2⟩
      . cases h
    . cases h
  . cases h
theorem K8{α:Type}{rp:bP α}[aO rp]{κ:Bool}{ν:Nu}{H:Bool->Hp}(hw:Le (H true) (H false)):∀{ss:List S1} {vs:List Value} {xs:List α},Bk ss (xs.map (aO.cl rp κ))=some (xs.map (aO.cl rp κ))->dO ν H ss vs->∃css,so rp.sz vs css/\bS rp (H κ) css.flatten xs/\vs.length=xs.length
 |[],vs,[],_,hr=>by rw[show vs=[] from hr];exact⟨[],trivial,rfl,rfl⟩
 |[],_,_::_,h,_=>by cases h
 |_::_,_,[],h,_=>by cases h
 |s::ss,_,x::xs,h,⟨v,vs,h1,h2,h3⟩=>by
  simp only[jY,Bk]at h;split at h
  . rename_i u hu;split at h
    . rename_i y hy;simp only[tx,M2]at h;obtain⟨hu',hy'⟩:=h;subst hu';subst hy';obtain⟨css,g1,g2,g3⟩:=K8 (rp:=rp) (κ:=κ) hw hy h3;obtain⟨cs,c1,c2⟩:=rY h2;have c3:rp.R (H κ) cs x:=aO.co (sq (ν':=ν) hw hu c2);exact⟨cs::css,by rw[h1];exact⟨c1,rp.len _ _ _ c3,g1⟩,⟨cs,css.flatten,rfl,c3,g2⟩,by rw[h1];simp[g3]⟩
    . cases h
  . cases h
theorem dc{α:Type}(rp:bP α)[aO rp](κ:Bool)(xs:List α){n:Nat}{parts:List (Nat×Operand)}{ss:List S1}(nx:K ⟨1,[(L.nx,some (.row rp κ xs))],[]⟩ (some (.s (.lf (.own L.nx)))))
 (ho:o.op=.buildSlice t n parts.toArray:=by rfl)(hp:Ah L 0 parts=some ss:=by rfl)(hw:Bk ss (xs.map (aO.cl rp κ))=some (xs.map (aO.cl rp κ)):=by rfl)(hl:xs.length=n:=by rfl)(hT:cC tb t=some T:=by rfl)(hd:T.d=.slice el:=by rfl)(hE:cC tb el=some E:=by rfl)(hz:E.sz=rp.sz:=by rfl)
 (h0:Nat.blt 0 (n*rp.sz)=true:=by rfl)(h1:Nat.ble (n*rp.sz) 16777216=true:=by rfl)(hr:(rp.sz==0)=false:=by rfl):cr tb o L K:=by
 refine cr.of (LT.nw fun ν H e w hv ht hO hS=>?_) nx;rw[ho];obtain⟨vs,v1,v2⟩:=Jm hS hp;obtain⟨css,c1,c2,c3⟩:=K8 (rp:=rp) (κ:=κ) ht hw v2;refine aF.QD (H:=H κ) (gi hT hd) (iI hE hz) (ku h1) v1 (by rw[c3,hl]) c1 (by simpa using h0) c2 hl (nu (w:=w)) ?_;intro b w' hcap hL' hst;subst hl;exact⟨some b,xs.length,xs.length,_,hL',fun ν' H' hν hH=>⟨rfl,hr,_,[],rfl,c2.mono (hH κ),hcap⟩,fun ν' H' hν hH hn=>⟨some b,xs.length,xs.length,hn,rfl⟩⟩
theorem iZ{α:Type}(rp:bP α)(nx:K ⟨1,[(L.nx,some (.row rp true []))],[]⟩ (some (.s (.lf (.own L.nx)))))
 (ho:o.op=.buildSlice t 0 #[]:=by rfl) (hT:cC tb t=some T:=by rfl) (hd:T.d=.slice el:=by rfl) (hE:cC tb el=some E:=by rfl) (hz:E.sz=rp.sz:=by rfl) (hr:(rp.sz==0)=false:=by rfl):cr tb o L K:=by
 refine cr.of (LT.nw fun ν H e w hv ht hO hS=>?_) nx;rw[ho];refine aF.TE (gi hT hd) (iI hE hz) (nu (w:=w)) ?_;intro b w' hL' hst;exact⟨some b,0,0,_,hL',fun ν' H' hν hH=>⟨rfl,hr,[],[],rfl,bS.nil,by simp⟩,fun ν' H' hν hH hn=>⟨some b,0,0,hn,rfl⟩⟩
def uh(L:SS)(d:Int):Option Operand->Option Int
 |none=>some d
 |some x=>match lv (bN L x)with
  |some (.int _ i)=>some i
  |_=>none
theorem zq{ν:Nu}{H:Bool->Hp}{e:Env}(hS:di ν H (aQ L.bQ) e){x:Option Operand}{d i:Int}(h:uh L d x=some i):(x=none/\i=d)\/∃k y,x=some y/\ev e y=.int k i:=by
 cases x with
 |none=>cases h;exact .inl ⟨rfl,rfl⟩
 |some x=>
  simp only[uh]at h;split at h
  . rename_i k i' hx;cases h;exact .inr ⟨k,x,rfl,(eJ hS hx).1⟩
  . cases h
theorem A3{α:Type}{rp:bP α}{κ:Bool}{xs:List α}{l h':Int}{f:List α->Option β}{lo hi:Option Operand}(h:(cut xs l h').bind f=some res)(nx:∀Y,f Y=some res->K .z (some (.s (.lf (.ro rp κ Y)))))
 (ho:o.op=.slice t x lo hi none:=by rfl)(hx:bN L x=some (.s (.lf (.ro rp κ xs))):=by rfl)(hlo:uh L 0 lo=some l:=by rfl)(hhi:uh L (xs.length:Int) hi=some h':=by rfl)(hT:cC tb t=some T:=by rfl)(hd:T.d=.slice el:=by rfl)(hE:cC tb el=some E:=by rfl)(hz:E.sz=rp.sz:=by rfl):cr tb o L K:=by
 obtain⟨Y,q1,q2⟩:=bind_some h;obtain⟨m,n,q3,q4,q5,q6,q7⟩:=Mp q1;refine cr.of (LT.look fun ν H e w hv ht hO hS=>?_) (nx Y q2);rw[ho];have hr:Rs rp (H κ) (ev e x) xs:=cW hS hx;refine aF.RX (l:=m) (h':=n) (gi hT hd) (iI hE hz) rfl hr ?_ ?_ q5 q6 q7 fun v' hv=>⟨rfl,hv⟩
 . rcases zq hS hlo with⟨h1,h2⟩|⟨kk,y,h1,h2⟩
   . exact .inl ⟨h1,by omega⟩
   . exact .inr ⟨kk,y,h1,by rw[h2,q3]⟩
 . rcases zq hS hhi with⟨h1,h2⟩|⟨kk,y,h1,h2⟩
   . exact .inl ⟨h1,by omega⟩
   . exact .inr ⟨kk,y,h1,by rw[h2,q4]⟩
theorem FQ{α:Type}{rp:bP α}{κ:Bool}{xs:List α}{h':Int}{f:List α->Option β}{hi:Option Operand}{j:Nat}(h:(cut xs 0 h').bind f=some res)(nx:∀Y,f Y=some res->K ⟨1,[(L.nx,some (.row rp κ Y)),(j,none)],[]⟩ (some (.s (.lf (.own L.nx)))))
 (ho:o.op=.slice t x none hi none:=by rfl)(hx:bN L x=some (.s (.lf (.own j))):=by rfl)(hj:aQ L.bC j=some (.row rp κ xs):=by rfl)(hhi:uh L (xs.length:Int) hi=some h':=by rfl)(hT:cC tb t=some T:=by rfl)(hd:T.d=.slice el:=by rfl)(hE:cC tb el=some E:=by rfl)(hz:E.sz=rp.sz:=by rfl):cr tb o L K:=by
 obtain⟨Y,q1,q2⟩:=bind_some h;obtain⟨m,n,q3,q4,q5,q6,q7⟩:=Mp q1;refine cr.of (LT.rp hj fun ν H e w b cp n0 k0 hv ht hO hS p1 p2 p3=>?_) (nx Y q2);rw[ho];obtain⟨e1,g7,cs,sp,rfl,g5,g6⟩:=p3;obtain⟨b',c',n',m1,m2⟩:(Lf.own j).R ν H (ev e x):=cW hS hx;rw[p1]at m1;cases m1;refine aF.TP (pre:=[]) (r:=rp) (o:=0) (h':=n) (gi hT hd) (iI hE hz) g7 m2 p2 g5 e1 g6 ?_ q6 q3 q7 ?_
 . rcases zq hS hhi with⟨h1,h2⟩|⟨kk,y,h1,h2⟩
   . exact .inl ⟨h1,by omega⟩
   . exact .inr ⟨kk,y,h1,by rw[h2,q4]⟩
 intro cs' sp' hcs hE';refine⟨b,cp,Y.length,_,jq p2,fun ν' H' hν hH=>⟨rfl,g7,cs',sp',by rw[hcs],hE'.mono (hH κ),by rw[hcs];exact g6⟩,fun ν' H' hν hH hn=>⟨b,cp,Y.length,hn,rfl⟩⟩
variable {a b:Operand} {ki kj:IntKind} {p q:Int}
theorem qO{v:Value}(nx:K .z (eF v))(h1:one v=true)(h:∀(e:Env) (w:World),(∀x u,lv (bN L x)=some u->ev e x=u)->aF P o.op o.type (ev e) w fun v' w'=>w'=w/\v'=v):cr tb o L K:=
 cr.of (sv:=some (.s (.lf (.v v)))) (LT.look fun ν H e w _ _ _ hS=>(h e w fun x u hx=>(eJ hS hx).1).mono fun v' w' ⟨g1,g2⟩=>⟨g1,g2,h1⟩) nx
theorem quB{f:Int->Option β}(h:(sdiv ki p q).bind f=some res)(nx:∀z,f z=some res->K .z (eF (.int ki z)))
 (ho:o.op=.binOp .quo t a b u:=by rfl)(ha:lv (bN L a)=some (.int ki p):=by rfl)(hb:lv (bN L b)=some (.int ki q):=by rfl):cr tb o L K:=by
 obtain⟨z,q1,q2⟩:=bind_some h;obtain⟨q3,q4⟩:=Sq q1;exact qO (nx z q2) rfl fun e w f=>by rw[ho];exact aF.quoI (f _ _ ha) (f _ _ hb) q3 q4 ⟨rfl,rfl⟩
theorem tJ(nx:K .z (eF (.int ki (ki.wrap (p.tdiv q)))))
 (ho:o.op=.binOp .quo t a b u:=by rfl)(ha:lv (bN L a)=some (.int ki p):=by rfl)(hb:lv (bN L b)=some (.int ki q):=by rfl)(h0:¬q=0:=by decide):cr tb o L K:=
 qO nx rfl fun e w f=>by rw[ho];exact aF.quoI (f _ _ ha) (f _ _ hb) h0 rfl ⟨rfl,rfl⟩
theorem reB{f:Int->Option β}(h:(srem p q).bind f=some res)(nx:∀z,f z=some res->K .z (eF (.int ki (p.tmod q))))
 (ho:o.op=.binOp .rem t a b u:=by rfl)(ha:lv (bN L a)=some (.int ki p):=by rfl)(hb:lv (bN L b)=some (.int ki q):=by rfl):cr tb o L K:=by
 obtain⟨z,q1,q2⟩:=bind_some h;obtain⟨q3,q4⟩:=US q1;exact qO (nx z q2) rfl fun e w f=>by rw[ho];exact aF.remI (f _ _ ha) (f _ _ hb) q3 ⟨rfl,rfl⟩
theorem uK(nx:K .z (eF (.int ki (p.tmod q))))
 (ho:o.op=.binOp .rem t a b u:=by rfl)(ha:lv (bN L a)=some (.int ki p):=by rfl)(hb:lv (bN L b)=some (.int ki q):=by rfl)(h0:¬q=0:=by decide):cr tb o L K:=
 qO nx rfl fun e w f=>by rw[ho];exact aF.remI (f _ _ ha) (f _ _ hb) h0 ⟨rfl,rfl⟩
theorem slL(nx:K .z (eF (.int ki (jc ki p q))))
 (ho:o.op=.binOp .shl t a b u:=by rfl)(ha:lv (bN L a)=some (.int ki p):=by rfl)(hb:lv (bN L b)=some (.int kj q):=by rfl)(h0:¬q<0:=by decide):cr tb o L K:=
 qO nx rfl fun e w f=>by rw[ho];exact aF.ishl (f _ _ ha) (f _ _ hb) h0 ⟨rfl,rfl⟩
theorem mu(nx:K .z (eF (.int ki (fq ki p q))))
 (ho:o.op=.binOp .shr t a b u:=by rfl)(ha:lv (bN L a)=some (.int ki p):=by rfl)(hb:lv (bN L b)=some (.int kj q):=by rfl)(h0:¬q<0:=by decide):cr tb o L K:=
 qO nx rfl fun e w f=>by rw[ho];exact aF.ishr (f _ _ ha) (f _ _ hb) h0 ⟨rfl,rfl⟩
theorem slB{f:Unit->Option β}(h:(kT (¬q<0)).bind f=some res)(nx:∀z,f z=some res->K .z (eF (.int ki (jc ki p q))))
 (ho:o.op=.binOp .shl t a b u:=by rfl)(ha:lv (bN L a)=some (.int ki p):=by rfl)(hb:lv (bN L b)=some (.int kj q):=by rfl):cr tb o L K:=by
 obtain⟨z,q1,q2⟩:=bind_some h;exact slL (nx z q2) ho ha hb (zZ q1)
theorem srB{f:Unit->Option β}(h:(kT (¬q<0)).bind f=some res)(nx:∀z,f z=some res->K .z (eF (.int ki (fq ki p q))))
 (ho:o.op=.binOp .shr t a b u:=by rfl)(ha:lv (bN L a)=some (.int ki p):=by rfl)(hb:lv (bN L b)=some (.int kj q):=by rfl):cr tb o L K:=by
 obtain⟨z,q1,q2⟩:=bind_some h;exact mu (nx z q2) ho ha hb (zZ q1)
theorem sdB{f:Unit->Option β}{x y:List UInt8}(h:(kT ((x.length:Int)+y.length<=9223372036854775807)).bind f=some res)(nx:∀z,f z=some res->K .z (eF (.string (s8 (x++y)))))
 (ho:o.op=.binOp .add t a b u:=by rfl)(ha:lv (bN L a)=some (.string (s8 x)):=by rfl)(hb:lv (bN L b)=some (.string (s8 y)):=by rfl):cr tb o L K:=by
 obtain⟨z,q1,q2⟩:=bind_some h;exact qO (nx z q2) rfl fun e w f=>by rw[ho];exact aF.sAdd (f _ _ ha) (f _ _ hb) (zZ q1) ⟨rfl,rfl⟩
theorem ixS{f:UInt8->Option β}{xs:List UInt8}(h:(idx xs q).bind f=some res)(nx:∀z,f z=some res->K .z (eF (.int .u8 (z.toNat:Int))))
 (ho:o.op=.index t a b:=by rfl)(ha:lv (bN L a)=some (.string (s8 xs)):=by rfl)(hb:lv (bN L b)=some (.int kj q):=by rfl)(hT:cC tb t=some T:=by rfl)(hd:T.d=.string:=by rfl):cr tb o L K:=by
 obtain⟨z,q1,q2⟩:=bind_some h;obtain⟨n,q3,q4⟩:=sZ q1;exact qO (nx z q2) rfl fun e w f=>by rw[ho];exact aF.Su (gi hT hd) (f _ _ ha) (f _ _ hb) q3 q4 ⟨rfl,rfl⟩
def JP{α:Type}(xs:List α):Pd:=⟨fun _ a=>∃b,a=.bool b/\(b=true->xs=[]),fun _ _ _ _ h=>h,fun _ _ ⟨b,h,_⟩=>by rw[h];rfl⟩
theorem tU{α:Type}{rp:bP α}{κ:Bool}{xs:List α}(nx:K .z (some (.s (.lf (.pd (JP xs))))))
 (ho:o.op=.binOp .eql t a b u:=by rfl)(ha:bN L a=some (.s (.lf (.ro rp κ xs))):=by rfl)(hb:lv (bN L b)=some (.slice none 0 0):=by rfl)(hT:cC tb t=some T:=by rfl)(hd:T.d=.slice el:=by rfl):cr tb o L K:=by
 refine cr.of (LT.look fun ν H e w hv ht hO hS=>?_) nx;rw[ho];have hr:Rs rp (H κ) (ev e a) xs:=cW hS ha;refine aF.N9 (gi hT hd) rfl (Sl.isSlice hr) (eJ hS hb).1 ?_;exact⟨rfl,_,rfl,fun hi=>(Sl.NJ hr hi).1⟩
theorem cn{α:Type}{F:Fx}{k:List It}{xs:List α}{c:Operand}{ca cb:Code}(ht:xs=[]->Gs tb F (.code ca::k) (L.kn c true))(hf:Gs tb F (.code cb::k) (L.kn c false))(hc:bN L c=some (.s (.lf (.pd (JP xs)))):=by rfl):jm tb F (.code (.cond c ca cb)::k) L:=by
 refine⟨fun e w hs=>?_⟩;have hs':=hs;obtain⟨ν,g1,g2,g3,g4,g5⟩:=hs';obtain⟨bb,q1,q2⟩:∃b,ev e c=.bool b/\(b=true->xs=[]):=cW g5 hc;have kn:St F (L.kn c bb) e w:=by
  cases c with
  |tmp t=>
   refine⟨ν,g1,g2,g3,g4,fun t' sv ht'=>?_⟩;have ht':(bif Nat.beq t' t then eF (.bool bb)else aQ L.bQ t')=some sv:=ht';cases hb:Nat.beq t' t with
   |false=>rw[hb]at ht';exact g5 t' sv ht'
   |true=>
    rw[hb]at ht';cases ht';have:=dH hb;subst this;exact⟨q1,rfl⟩
  |_=>exact hs
 cases bb with
 |true=>exact cv.Ou q1 rfl ((Gs.ok (ht (q2 rfl))).ok e w kn)
 |false=>exact cv.Kp q1 rfl ((Gs.ok hf).ok e w kn)
end
open Go Go.RowKit Go.X
variable [eT]
theorem Jh{H:Hp}{w:World}(hv:Le H (view [] w)):H=vw (fun b=>H b≠none) w:=by
 funext b;cases hb:H b with
 |none=>
  cases hw:vw (fun b=>H b≠none) w b with
  |none=>rfl
  |some o=>exact absurd hb (AR hw).1
 |some o=>exact(FN (by rw[hb];simp) (Bj (hv b o hb))).symm
section
variable {P:Program} {tb:List (dG P)} {L:SS} {o:Oper} {K:Ef->Option Sv->Prop} {β:Type} {res:β} {t u el:TypeId} {x y a b c d:Operand} {T E:dG P} {kk:IntKind}
theorem clR{α:Type}{rp:bP α}{κ:Bool}{xs:List α}{k1 k2:IntKind}{y':Operand}(nx:K .z (some (.s (.lf (.cp rp κ xs)))))
 (ho:o.op=.slice t x none (some y) (some y'):=by rfl)(hx:bN L x=some (.s (.lf (.ro rp κ xs))):=by rfl)(hy:lv (bN L y)=some (.int k1 (xs.length:Int)):=by rfl)(hy':lv (bN L y')=some (.int k2 (xs.length:Int)):=by rfl)(hT:cC tb t=some T:=by rfl)(hd:T.d=.slice el:=by rfl)(hE:cC tb el=some E:=by rfl)(hz:E.sz=rp.sz:=by rfl):cr tb o L K:=by
 refine cr.of (LT.look fun ν H e w hv ht hO hS=>?_) nx;rw[ho];have hr:Rs rp (H κ) (ev e x) xs:=cW hS hx;exact aF.Tj (n:=xs.length) (gi hT hd) (iI hE hz) rfl hr (eJ hS hy).1 (eJ hS hy').1 rfl rfl fun v' h1 h2=>⟨rfl,h1,h2⟩
theorem apC{α:Type}(κn:Bool){rp:bP α}{κ κs:Bool}{xs ys:List α}{bs:Nat}{f:List α->Option β}{l:Lf}(h:(cN bs xs ys).bind f=some res)
 (nx:∀Y,f Y=some res->K ⟨1,[(L.nx,some (.row rp κn Y))],[]⟩ (some (.s (.lf (.own L.nx)))))
 (ho:o.op=.call {callee:=.builtin .append,args:=#[a,c],argTypes:=#[t,t]}:=by rfl) (ha:bN L a=some (.s (.lf (.cp rp κ xs))):=by rfl) (hc:bN L c=some (.s (.lf l)):=by rfl)
 (hs:vg L rp κs ys l:=by first|exact .ro|exact .own rfl) (hp:Nat.blt 0 ys.length=true:=by rfl) (hT:cC tb t=some T:=by rfl) (hd:T.d=.slice el:=by rfl) (hE:cC tb el=some E:=by rfl) (hz:E.sz=rp.sz:=by rfl) (hb:E.qA=bs:=by rfl) (hq:Nat.beq E.z.cells.size rp.sz=true:=by rfl) (hr:(rp.sz==0)=false:=by rfl)
 (hk:bW κ κn=true:=by rfl) (hks:bW κs κn=true\/uN rp:=by first|exact .inl rfl|exact .inr fun _ _ _ _ h=>h):cr tb o L K:=by
 obtain⟨Y,q1,q2⟩:=bind_some h;obtain⟨q3,q4,q5⟩:=BX q1;refine cr.of (LT.nw fun ν H e w hv ht hO hS=>?_) (nx Y q2);rw[ho];obtain⟨ds,d1,d2⟩:=Ea (κn:=κn) hv ht hO hs hks (cW hS hc);obtain⟨hR,hcl⟩:Rs rp (H κ) (ev e a) xs/\wJ (ev e a):=cW hS ha;have hR:=Rs.mono hR (uR ht hk);subst hb;have e1:=Jh (hv κn);rw[e1]at hR d2;refine aF.Im (gi hT hd) (iI hE hz) (dH hq) hr rfl rfl hR hcl d1 d2 (by simpa using hp) q3 q4 q5 (nu (w:=w)) fun b cap sp cs w' h1 h2 h3 h4=>?_;rw[<-e1]at h1;exact⟨some b,cap,Y.length,_,h3,fun ν' H' hν hH=>⟨rfl,hr,cs,sp,rfl,h1.mono (hH κn),h2⟩,fun ν' H' hν hH hn=>⟨some b,cap,Y.length,hn,rfl⟩⟩
theorem cutG{α:Type}{rp:bP α}{κ:Bool}{xs:List α}{lo h':Int}{f:Unit->Option β}{sz j:Nat}{hi:Option Operand}(h:(n7 xs lo h').bind f=some res)(nx:∀u,f u=some res->K .z (some (.s (.lf (.sg j sz lo h')))))
 (ho:o.op=.slice t x (some y) hi none:=by rfl)(hx:bN L x=some (.s (.lf (.own j))):=by rfl)(hj:aQ L.bC j=some (.row rp κ xs):=by rfl)(hlo:lv (bN L y)=some (.int kk lo):=by rfl)(hhi:uh L (xs.length:Int) hi=some h':=by rfl)(hT:cC tb t=some T:=by rfl)(hd:T.d=.slice el:=by rfl)(hE:cC tb el=some E:=by rfl)(hz:E.sz=rp.sz:=by rfl)(hs:rp.sz=sz:=by rfl):cr tb o L K:=by
 obtain⟨u,q1,q2⟩:=bind_some h;obtain⟨m,n,q3,q4,q5,q6⟩:=Jv q1;refine cr.of (LT.look fun ν H e w hv ht hO hS=>?_) (nx u q2);rw[ho];obtain⟨b,c,cs,sp,g1,g4,g5,g6,g7⟩:=vK hO hj;obtain⟨b',c',n',m1,m2⟩:(Lf.own j).R ν H (ev e x):=cW hS hx;rw[g1]at m1;cases m1;obtain⟨b,rfl⟩:=zo g4 g5 g7 (bV (B5 q5 q6));refine aF.PB (r:=rp) (l:=m) (h':=n) (gi hT hd) (iI hE hz) g7 m2 rfl g5 g6 (.inr ⟨kk,y,rfl,by rw[(eJ hS hlo).1,q3]⟩) ?_ q5 q6 ?_
 . rcases zq hS hhi with⟨h1,h2⟩|⟨kk,y,h1,h2⟩
   . exact .inl ⟨h1,by omega⟩
   . exact .inr ⟨kk,y,h1,by rw[h2,q4]⟩
 . exact⟨rfl,b,_,m,n,_,g1,q3,q4,B9 q5,by rw[hs,eK]⟩
theorem ixG{α:Type}{rp:bP α}{κ:Bool}{xs:List α}{i lo h':Int}{f:α->Option β}{sz j:Nat}(h:((kT (0<=i/\i<h'-lo)).bind fun _=>(idx xs (lo+i)).bind f)=some res)(nx:∀a,f a=some res->K .z (some (.pw j rp xs a (lo+i) 0)))
 (ho:o.op=.indexAddr t x y:=by rfl)(hx:bN L x=some (.s (.lf (.sg j sz lo h'))):=by rfl)(hj:aQ L.bC j=some (.row rp κ xs):=by rfl)(hy:lv (bN L y)=some (.int kk i):=by rfl)(hT:cC tb t=some T:=by rfl)(hd:T.d=.slice el:=by rfl)(hE:cC tb el=some E:=by rfl)(hz:E.sz=rp.sz:=by rfl)(hs:rp.sz=sz:=by rfl):cr tb o L K:=by
 obtain⟨u,q0,q2⟩:=bind_some h;replace q0:=zZ q0;obtain⟨a,q1,q2⟩:=bind_some q2;obtain⟨n,q3,q4⟩:=sZ q1;refine cr.of (LT.look fun ν H e w hv ht hO hS=>?_) (nx a q2);rw[ho];obtain⟨b,c,cs,sp,g1,g4,g5,g6,g7⟩:=vK hO hj;obtain⟨b',c',m,k,cp,m1,m2,m3,m4,m5⟩:(Lf.sg j sz lo h').R ν H (ev e x):=cW hS hx;rw[g1]at m1;cases m1;subst hs;refine aF.indexAddr (i:=i.toNat) (gi hT hd) (iI hE hz) m5 (by rw[(eJ hS hy).1];congr 1;omega) (by omega) rfl ⟨rfl,b',_,n,g1,q3,q4,?_⟩;rw[<-gL,show n=m+i.toNat by omega];rfl
theorem mkM{Q V:Type}(dk:DecidableEq Q)(kf:Q->Value)(vf:V->Value)(nx:K ⟨1,[(L.nx,some (.map dk kf vf []))],[]⟩ (some (.s (.lf (.mp L.nx)))))(ho:o.op=.makeMap t none:=by rfl):cr tb o L K:=by
 refine cr.of (LT.nw fun ν H e w hv ht hO hS=>?_) nx;rw[ho];exact aF.makeMap (kf:=kf) (vf:=vf) (nu (w:=w)) fun b w' h1 h2=>⟨some b,0,0,_,h1,fun _ _ _ _=>rfl,fun ν' H' hν hH hn=>⟨b,(0,0),hn,rfl⟩⟩
section
variable {Q V:Type} {dk:DecidableEq Q} {kf:Q->Value} {vf:V->Value} {m:List (Q×V)} {i:Nat} {kt et:TypeId}
theorem luM(z:V)(q:Q)(hk:lk P kt kf)(h1:∀v,one (vf v)=true)(nx:K .z (some (.fp [.lf (.v (vf (fy m q z).1)),.lf (.v (.bool (fy m q z).2))])))
 (ho:o.op=.lookup t a c true:=by rfl)(ha:bN L a=some (.s (.lf (.mp i))):=by rfl)(hi:aQ L.bC i=some (.map dk kf vf m):=by rfl)(hc:lv (bN L c)=some (kf q):=by rfl)(hT:cC tb t=some T:=by rfl)(hd:T.d=.map kt et:=by rfl)(hE:cC tb et=some E:=by rfl)(hz:E.z=vf z:=by rfl):cr tb o L K:=by
 refine cr.of (LT.look fun ν H e w hv ht hO hS=>?_) nx;rw[ho];obtain⟨b,c',g1,g2⟩:(Lf.mp i).R ν H (ev e a):=cW hS ha;obtain⟨b',c'',n,k,q1,q2,q3⟩:=hO i _ hi;rw[g1]at q1;cases q1;have q3:k=kg kf vf m:=q3;subst q3;exact aF.look (z:=z) hk (gi hT hd) (hz▸fQ hE) g2 q2 (eJ hS hc).1 ⟨rfl,_,rfl,_,_,rfl,⟨rfl,h1 _⟩,_,_,rfl,⟨rfl,rfl⟩,rfl⟩
theorem puM(q:Q)(v:V)(hk:lk P kt kf)(nx:K ⟨0,[(i,some (.map dk kf vf (j1 m q v)))],[]⟩ none)
 (ho:o.op=.mapUpdate t a c d:=by rfl)(ha:bN L a=some (.s (.lf (.mp i))):=by rfl)(hi:aQ L.bC i=some (.map dk kf vf m):=by rfl)(hc:lv (bN L c)=some (kf q):=by rfl)(hd':lv (bN L d)=some (vf v):=by rfl)(hT:cC tb t=some T:=by rfl)(hd:T.d=.map kt et:=by rfl):cr tb o L K:=by
 refine cr.of (LT.md hi fun ν H e w b c0 n k0 hv ht hO hS p1 p2 p3=>?_) nx;rw[ho];obtain⟨b',c',g1,g2⟩:(Lf.mp i).R ν H (ev e a):=cW hS ha;rw[p1]at g1;cases g1;have p3:k0=kg kf vf m:=p3;subst p3;exact aF.UX hk (gi hT hd) g2 (eJ hS hc).1 (eJ hS hd').1 (jq p2) 0 rfl rfl fun w' h1 h2=>⟨_,h1,fun _ _=>rfl⟩
end
def oR(κ:Bool)(l:List Lf):Pd:=⟨fun H a=>∃b o vs,a=.pointer (some ⟨b,o,none⟩)/\At (H κ) b o vs/\cR sN H l vs,fun H H' a hH ⟨b,o,vs,h1,h2,h3⟩=>⟨b,o,vs,h1,h2.mono (hH κ),h3.mono (eQ.refl _) hH⟩,fun H a ⟨b,o,vs,h1,_⟩=>by rw[h1];rfl⟩
def iM(P:Program){α ρ:Type}(az:α->List S1)(rs:ρ->List S1)(f:α->Option ρ):Pd:=
  ⟨fun H v=>∃fid caps,v=.func (.func fid) #[] (List.toArray caps)/\Enters P fid/\∀(X:Nat->Prop) (w:World) (H':Bool->Hp) (ν:Nu) (x:α) (r:ρ) (l:List Value),(∀κ,Le (H κ) (H' κ))->(∀k,ν k=none)->cH X w H' ν (fun _=>none) w->f x=some r->dO ν (HF X w H' ν (fun _=>none) w) (az x) l->
      Calls P fid (l++caps).toArray w (fun e w'=>∃vs,e=.returned (jh vs)/\vY X w H' ν 0 [] (rs r) vs w'),
   fun H H' v hH ⟨fid,caps,h1,h2,h3⟩=>⟨fid,caps,h1,h2,fun X w H2 ν x r l hle=>h3 X w H2 ν x r l fun κ=>Le.trans (hH κ) (hle κ)⟩,
   fun H v ⟨fid,caps,h1,_⟩=>by rw[h1];rfl⟩
theorem ru(t:Nat){κ:Bool}{l:List Lf}(ht:aQ L.bQ t=some (.s (.lf (.pd (oR κ l)))):=by rfl):Vw L ⟨0,[],[(t,some (.pr κ l 0))]⟩:=by
 refine⟨fun X w0 H0 ν oF e w ho hn hS hs=>⟨ν,iA.refl,hS,fun _=>Le.refl _,fun t' sv h=>?_⟩⟩;have h:(bif Nat.beq t' t then some (Sv.pr κ l 0)else none)=some sv:=h;cases hb:Nat.beq t' t with
 |false=>rw[hb]at h;cases h
 |true=>
  rw[hb]at h;cases h;have:=dH hb;subst this;obtain⟨b,o,vs,h1,h2,h3⟩:=hs _ _ ht;exact⟨b,o,vs,h1,h2,h3.mono (fun i x h=>(by cases h)) fun _=>Le.refl _⟩
theorem sV(j t:Nat){l:List Lf}(hj:aQ L.bC j=some (.box l):=by rfl)(ht:aQ L.bQ t=some (.s (.lf (.ptr j 0))):=by rfl):Vw L ⟨0,[(j,none)],[(t,some (.pr true l 0))]⟩:=by
 refine⟨fun X w0 H0 ν oF e w ho hn hS hs=>?_⟩;obtain⟨b,c,n,kk,q1,q2,vs,e2,e3⟩:=hS.cS j _ (ho j _ hj);obtain⟨b',c',r1,r2⟩:(Lf.ptr j 0).R ν (HF X w0 H0 ν oF w) (e t):=hs _ _ ht;rw[q1]at r1;cases r1;obtain⟨g1,g2⟩:=hS.go (T:=[j]) (O:=[some b']) (new:=[]) (oF':=bG [(j,none)] oF) (ν':=ν) (fun b' hb=>by simp only[cI]at hb;exact⟨j,by simp,_,ho j _ hj,by rw[eE q1,hb]⟩) ((jq q2).drop 0).1 (eQ.refl ν) rfl (by simp)
  (fun i o h=>by
   rcases jC h with h|⟨h,h2⟩
   . simp at h
   . refine .inl ⟨h,fun hm=>?_⟩;simp only[cI]at hm;subst hm;simp[bZ]at h2)
  (fun _ x hx=>by cases hx) (fun x hx=>by cases hx) ⟨rfl,rfl⟩
 refine⟨ν,iA.refl,g1,g2,fun t' sv h=>?_⟩;have h:(bif Nat.beq t' t then some (Sv.pr true l 0)else none)=some sv:=h;cases hb:Nat.beq t' t with
 |false=>rw[hb]at h;cases h
 |true=>
  rw[hb]at h;cases h;have:=dH hb;subst this;have hno:¬Ow ν (bG [(j,none)] oF) b':=by
   rintro⟨i,ob,r2,r3⟩;rcases jC r2 with h|⟨h,h2⟩
   . simp at h
   . have:=hS.gB i j ob _ b' h (ho j _ hj) r3 (.inl (eE q1));subst this;simp[bZ]at h2
  subst e2;exact⟨b',0,vs,r2,oH q2 fun q hq=>kY (hS.fresh j _ b' (ho j _ hj) (.inl (eE q1))) hno (vd q2 hq),e3.mono (eQ.refl ν) g2⟩
theorem dO.append{ν:Nu}{H:Bool->Hp}:∀{l l':List S1} {a a':List Value},dO ν H l a->dO ν H l' a'->dO ν H (l++l') (a++a')
 |[],_,_,_,h,h'=>by rw[show _=[] from h];exact h'
 |_::_,_,_,_,⟨a,az,h1,h2,h3⟩,h'=>by rw[h1];exact⟨a,az++_,rfl,h2,h3.append h'⟩
def rR(L:SS):List Operand->Option (List S1)
 |[]=>some []
 |x::r=>match bN L x with
  |some (.pr κ l 0)=>match l.all okV&&rR.isT κ with
   |true=>match rR L r with
    |some y=>some (.lf (.pd (oR false (l.map wf)))::y)
    |none=>none
   |false=>none
  |_=>none
where
 isT:Bool->Bool:=fun _=>true
 wf:Lf->Lf
  |.ro r _ xs=>.ro r false xs
  |l=>l
 okV:Lf->Bool
  |.v _=>true
  |.ro _ _ _=>true
  |.pd _=>true
  |_=>false
theorem KG{ν ν':Nu}{H:Bool->Hp}:∀{l:List Lf} {vs:List Value},l.all rR.okV=true->cR ν H l vs->cR ν' H l vs
 |[],_,_,h=>h
 |x::r,_,hk,⟨a,az,h1,h2,h3⟩=>by
  simp only[Cd,fG]at hk;refine⟨a,az,h1,?_,KG hk.2 h3⟩;cases x<;>first|exact h2|cases hk.1
theorem wf_R{ν:Nu}{H:Bool->Hp}(ht:Le (H true) (H false)):∀{l:List Lf} {vs:List Value},cR ν H l vs->cR ν H (l.map rR.wf) vs
 |[],_,h=>h
 |x::r,_,⟨a,az,h1,h2,h3⟩=>by
  refine⟨a,az,h1,?_,wf_R ht h3⟩;cases x with
  |ro rp κ xs=>cases κ with
   |true=>exact Rs.mono h2 ht
   |false=>exact h2
  |_=>exact h2
theorem Hx{ν:Nu}{H:Bool->Hp}{e:Env}(ht:Le (H true) (H false))(hS:di ν H (aQ L.bQ) e):∀{xs:List Operand} {ss:List S1},rR L xs=some ss->dO sN H ss (xs.map (ev e))
 |[],_,h=>by cases h;rfl
 |x::r,_,h=>by
  simp only[rR]at h;split at h
  . rename_i κ l hx;split at h
    . rename_i hk;split at h
      . rename_i y hy;cases h;simp only[fG]at hk;obtain⟨b,o,vs,h1,h2,h3⟩:=cW hS hx;refine⟨_,_,rfl,⟨b,o,vs,h1,?_,wf_R ht (KG hk.1 h3)⟩,Hx ht hS hy⟩;cases κ with
        |true=>exact h2.mono ht
        |false=>exact h2
      . cases h
    . cases h
  . cases h
theorem mkF{α ρ:Type}(az:α->List S1)(rs:ρ->List S1)(f:α->Option ρ){fid:FuncId}{caps:List Operand}{cs:List S1}(c:∀x r,f x=some r->Cx P fid (az x++cs) [] [] (rs r))(he:Enters P fid)(nx:K .z (some (.s (.lf (.pd (iM P az rs f))))))
 (ho:o.op=.makeFunc (.func fid) #[] caps.toArray:=by rfl) (hc:rR L caps=some cs:=by rfl):cr tb o L K:=by
 refine cr.of (LT.look fun ν H e w hv ht hO hS=>?_) nx;rw[ho];refine aF.makeFunc rfl ⟨rfl,fid,caps.map (ev e),rfl,he,?_⟩;intro X w1 H' ν1 x r l hle hν hSt hf hl;have hcap:=Hx ht hS hc;have hin:∀κ,Le (H κ) (HF X w1 H' ν1 (fun _=>none) w1 κ):=fun κ b o hb=>by
  have h1:=hle κ b o hb;have h2:H' false b=some o:=by
   cases κ with
   |true=>exact hSt.h0 b o h1
   |false=>exact h1
  obtain⟨g1,g2,g3⟩:=hSt.nc b o h2;rw[nY g1 g3];exact h1
 have hno:aQ (ei 0 ([]:List Ob))=fun _=>none:=by funext t;rfl
 have:=(c x r hf).2 X w1 H' ν1 (l++caps.map (ev e)) (fun k _=>hν k) (by rw[hno];exact hSt) (by
  rw[hno];exact hl.append (hcap.mono (fun i x h=>(by cases h)) hin))
 exact this
theorem cvl{α ρ:Type}{az:α->List S1}{rs:ρ->List S1}{g:α->Option ρ}(x:α){f:ρ->Option β}{fo:Operand}{args:List Operand}{ats:Array TypeId}{ls:List S1}(h:(g x).bind f=some res)(nx:∀r,f r=some res->K .z (some (o7 ((rs r).map (kI none [] L.nx)))))
 (ho:o.op=.call {callee:=.value fo,args:=args.toArray,argTypes:=ats}:=by rfl)(hf:bN L fo=some (.s (.lf (.pd (iM P az rs g)))):=by rfl)(ha:ot L args=some ls:=by rfl)(hl:kh none (aQ L.bC) [] ls (az x)=some (az x):=by rfl)(h2:∀r,(rs r).all (pG none 0)=true:=by intro r;rfl):cr tb o L K:=by
 obtain⟨r,q1,q2⟩:=bind_some h;refine cr.of ⟨fun X w0 H0 ν oF e w ho' hν hS hs=>?_⟩ (nx r q2);rw[ho];obtain⟨fid,caps,e1,he,hcall⟩:=cW hs hf;have hI:∀i∈([]:List Nat),∃ob,oF i=some ob:=fun i hi=>by cases hi
 have hb:iT none oF [] [] []=some []:=rfl;have hin:=hS.yZ (md:=none) (is:=[]) rfl hb;have e0:aQ (ei 0 ([]:List Ob))=fun _=>none:=by funext t;rfl
 rw[e0]at hin;have hargs:=wE (md:=none) (is:=[]) (νc:=dY ν []) (cF:=fun _=>none) hS hI (qi hS hI) (Em ho' hl) (BL hs ha);have hc:=hcall (Xc ν []) w _ (dY ν []) x r (args.map (ev e)) (fun κ=>oP (md:=none) hS hI (by cases κ<;>rfl)) (fun k=>rfl) hin q1 hargs;have hfe:ev e fo=.func (.func fid) (List.toArray []) caps.toArray:=e1;refine aF.Kb he hfe (by simp) hc ?_;rintro en w' ⟨vs,rfl,ν',hp,hE,hr⟩;refine⟨jh vs,rfl,BQ none [] 0 L.nx hS hI rfl rfl (h2 r) rfl hν (fun k hk=>absurd hk (M8 k)) hE hr⟩
theorem vG{α ρ:Type}{az:α->List S1}{rs:ρ->List S1}{g:α->Option ρ}(x:α){f:ρ->Option β}{fo:Operand}{args:List Operand}{ats:Array TypeId}{ls:List S1}(h:(g x).bind f=some res)(nx:∀r,f r=some res->K .z (some (o7 ((rs r).map (kI (some false) [] L.nx)))))
 (ho:o.op=.call {callee:=.value fo,args:=args.toArray,argTypes:=ats}:=by rfl)(hf:bN L fo=some (.s (.lf (.pd (iM P az rs g)))):=by rfl)(ha:ot L args=some ls:=by rfl)(hl:kh (some false) (aQ L.bC) [] ls (az x)=some (az x):=by rfl)(h2:∀r,(rs r).all (pG (some false) 0)=true:=by intro r;rfl):cr tb o L K:=by
 obtain⟨r,q1,q2⟩:=bind_some h;refine cr.of ⟨fun X w0 H0 ν oF e w ho' hν hS hs=>?_⟩ (nx r q2);rw[ho];obtain⟨fid,caps,e1,he,hcall⟩:=cW hs hf;have hI:∀i∈([]:List Nat),∃ob,oF i=some ob:=fun i hi=>by cases hi
 have hb:iT (some false) oF [] [] []=some []:=rfl;have hin:=hS.yZ (md:=some false) (is:=[]) rfl hb;have e0:aQ (ei 0 ([]:List Ob))=fun _=>none:=by funext t;rfl
 rw[e0]at hin;have hargs:=wE (md:=some false) (is:=[]) (νc:=dY ν []) (cF:=fun _=>none) hS hI (qi hS hI) (Em ho' hl) (BL hs ha);have hc:=hcall (Xc ν []) w _ (dY ν []) x r (args.map (ev e)) (fun κ=>oP (md:=some false) hS hI (by cases κ<;>rfl)) (fun k=>rfl) hin q1 hargs;have hfe:ev e fo=.func (.func fid) (List.toArray []) caps.toArray:=e1;refine aF.Kb he hfe (by simp) hc ?_;rintro en w' ⟨vs,rfl,ν',hp,hE,hr⟩;refine⟨jh vs,rfl,BQ (some false) [] 0 L.nx hS hI rfl rfl (h2 r) rfl hν (fun k hk=>absurd hk (M8 k)) hE hr⟩
inductive pA (P:Program):List S1->List S1->Prop
 |n:pA P [] []
 |s {a:S1} {l l':List S1} (h:pA P l l'):pA P (a::l) (a::l')
 |f {α ρ:Type} (az:α->List S1) (rs:ρ->List S1) (f:α->Option ρ) {fid:FuncId} (c:∀x r,f x=some r->Cx P fid (az x) [] [] (rs r)) (he:Enters P fid) {l l':List S1} (h:pA P l l'):pA P (.lf (.v (.func (.func fid) #[] #[]))::l) (.lf (.pd (iM P az rs f))::l')
theorem pA.ok{ν:Nu}{H:Bool->Hp}:∀{l l':List S1} {v:List Value},pA P l l'->dO ν H l v->dO ν H l' v
  |_,_,_,.n,h=>h
  |_,_,_,.s k,⟨a,az,h1,h2,h3⟩=>⟨a,az,h1,h2,k.ok h3⟩
  |_,_,_,.f az rs g c he k,⟨a,l,h1,h2,h3⟩=>⟨a,l,h1,⟨_,[],h2.1,he,fun X w H' ν1 x r l2 hle hν hSt hf hl=>by
      have hno:aQ (ei 0 ([]:List Ob))=fun _=>none:=by funext t;rfl
      have:=(c x r hf).2 X w H' ν1 l2 (fun k _=>hν k) (by rw[hno];exact hSt) (by rw[hno];exact hl);rw[lG];exact this⟩,k.ok h3⟩
theorem clF(md:Option Bool)(is:List Nat)(nn:Nat){ρ:Type}{g:Option ρ}{f:ρ->Option β}{fid:FuncId}{args:List Operand}{ats:Array TypeId}{l0 ls az:List S1}{ib:List Ob}{out:ρ->List (Nat×Option Ob)}{rs:ρ->List S1}
 (h:g.bind f=some res)(c:∀r,g=some r->Cx P fid az ib (out r) (rs r))(hc:pA P l0 ls)(nx:∀r,f r=some res->K ⟨nn,eX md is L.nx (out r)++gW is,[]⟩ (some (o7 ((rs r).map (kI md is L.nx)))))
 (ho:o.op=.call {callee:=.value (.func fid),args:=args.toArray,argTypes:=ats}:=by rfl)(ha:ot L args=some l0:=by rfl)(hl:kh md (aQ L.bC) is ls az=some az:=by rfl)(hb:iT md (aQ L.bC) is is ib=some ib:=by rfl)(hn:fI is=true:=by rfl)
 (h1:∀r,og md (is.length+nn) (out r)=true:=by intro r;rfl)(h2:∀r,(rs r).all (pG md (is.length+nn))=true:=by intro r;rfl)(h3:∀r,fI ((out r).map (·.1))=true:=by intro r;rfl):cr tb o L K:=by
 obtain⟨r,q1,q2⟩:=bind_some h;refine cr.of ?_ (nx r q2);rw[ho];exact L5 md is nn (c r q1) ha (fun _ _ _ h=>hc.ok h) hl hb hn (h1 r) (h2 r) (h3 r)
theorem Vw.comp{a b:Ef}(v:Vw L a)(v2:Vw (L.lF a) b):Vw L (a.comp b):=by
 refine⟨fun X w0 H0 ν oF e w ho hn hS hs=>?_⟩;obtain⟨ν1,g1,g2,g3,g4⟩:=v.ok X w0 H0 ν oF e w ho (fun k h1 h2=>hn k h1 (by show k<L.nx+(a.n+b.n);omega)) hS hs;have hle:=g1.le (fun k h1 h2=>hn k h1 (by show k<L.nx+(a.n+b.n);omega));obtain⟨ν2,q1,q2,q3,q4⟩:=v2.ok X w0 H0 ν1 (bG a.up oF) e w (by rw[oT];exact Kz ho) (fun k h1 h2=>by
  have h1:L.nx+a.n<=k:=h1;have h2:k<L.nx+a.n+b.n:=h2;rw[g1 k (.inr h1)];exact hn k (by omega) (by show k<L.nx+(a.n+b.n);omega)) g2 (by rw[rQ];exact(hs.mono hle g3).ap g4)
 rw[<-oD]at q2 q3 q4;have hle2:eQ ν1 ν2:=q1.le (fun k h1 h2=>by
  have h1:L.nx+a.n<=k:=h1;have h2:k<L.nx+a.n+b.n:=h2;rw[g1 k (.inr h1)];exact hn k (by omega) (by show k<L.nx+(a.n+b.n);omega))
 refine⟨ν2,fun k hk=>?_,q2,fun κ=>Le.trans (g3 κ) (q3 κ),?_⟩
 . have hk:k<L.nx\/L.nx+(a.n+b.n)<=k:=hk;rw[q1 k (by show k<L.nx+a.n\/L.nx+a.n+b.n<=k;omega),g1 k (by omega)]
 . have e1:aQ (a.comp b).sl=bG b.sl (aQ a.sl):=by funext t;exact qm _ _ _
   rw[e1];exact(g4.mono hle2 q3).ap q4
theorem iH(tb:List (dG P)){f:FuncId}{fn:Func}{c:Code}{rl:List ResultVar}{n:Nat}{az rs:List S1}{ib:List Ob}{out:List (Nat×Option Ob)}{m:Nat}{a:Ef}(v:Vw ⟨m,ei 0 ib,oY 0 az⟩ a)(en:Enters P f)(hf:P.funcs[f]?=some fn)
 (h:∀X w H ν,Gs tb ⟨n,QR P rl X w H ν m out rs,X,w,H,m,ν⟩ [.code c] ((⟨m,ei 0 ib,oY 0 az⟩:SS).lF a))(hm:ib.length=m:=by rfl)(hb:fn.body=some c:=by rfl)(hn:fn.ntmps=n:=by rfl)(hr:fn.results=rl.toArray:=by rfl)(hl:Nat.ble az.length n=true:=by rfl):Cx P f az ib out rs:=by
 subst hm;refine⟨en,fun X w H ν l hν hS hl'=>?_⟩;refine Jg hf hb hn hr (by rw[hl'.length];exact ku hl) ?_;have h0:St ⟨n,QR P rl X w H ν ib.length out rs,X,w,H,ib.length,ν⟩ ⟨ib.length,ei 0 ib,oY 0 az⟩ (kE l) w:=⟨ν,hν,bK _,fun _ _=>rfl,hS,A2 0 hl' (fun i v hi=>by rw[eK];simp[kE,hi])⟩;refine((Gs.ok (h X w H ν)).ok _ _ (v.st h0)).mono ?_;rintro e w' ⟨vs,h1,h2⟩;exact⟨vs,h1,vs,rfl,h2⟩
theorem jA{α:Type}{rp:bP α}{κ:Bool}{xs:List α}{i:Int}{f:α->Option β}{j:Nat}(h:(idx xs i).bind f=some res)(nx:∀a,idx xs i=some a->f a=some res->K .z (some (.pw j rp xs a i 0)))
 (ho:o.op=.indexAddr t x y:=by rfl)(hx:bN L x=some (.s (.lf (.own j))):=by rfl)(hj:aQ L.bC j=some (.row rp κ xs):=by rfl)(hy:lv (bN L y)=some (.int kk i):=by rfl)(hT:cC tb t=some T:=by rfl)(hd:T.d=.slice el:=by rfl)(hE:cC tb el=some E:=by rfl)(hz:E.sz=rp.sz:=by rfl):cr tb o L K:=by
 obtain⟨a,q1,q2⟩:=bind_some h;obtain⟨n,q3,q4⟩:=sZ q1;refine cr.of (LT.look fun ν H e w hv ht hO hS=>?_) (nx a q1 q2);rw[ho];obtain⟨b,c,cs,sp,g1,g4,g5,g6,g7⟩:=vK hO hj;obtain⟨b',c',n',m1,m2⟩:(Lf.own j).R ν H (ev e x):=cW hS hx;rw[g1]at m1;cases m1;obtain⟨b,rfl⟩:=zo g4 g5 g7 q4;exact aF.Ds (r:=rp) (q:=n*rp.sz+0) (gi hT hd) (iI hE hz) m2 rfl (eJ hS hy).1 q3 (dU.1 q4).1 (by omega) ⟨rfl,b,_,n,g1,q3,q4,rfl⟩
end
open Go Go.RowKit Go.X
variable [eT]
theorem UJ{P:Program}{f:FuncId}{az rs:List S1}(c:Cn P f az [] rs){W:World}{l:List Value}(h:dO sN (fun _=>HW W) az l)(hT:vX fun _=>HW W):
 Calls P f l.toArray W (fun e w'=>∃vs ν' H',e=.returned (jh vs)/\Ext W w'/\dO ν' H' rs vs):=by
 have hno:aQ (ei 0 ([]:List Ob))=fun _=>none:=by funext t;rfl
 have h0:∀b o,HW W b=some o->b<W.heap.size/\W.heap[b]?=some o/\¬(fun _:Nat=>False) b:=fun b o hb=>by
  have h1:=(AR hb).2;exact⟨kd h1,h1,fun h=>h⟩
 have hS:cH (fun _=>False) W (fun _=>HW W) sN (fun _=>none) W:=
  ⟨rfl,rfl,rfl,bK _,fun _ _ _=>rfl,Le.refl _,h0,hT,fun i ob hi=>by(cases hi),fun i ob b hi=>by(cases hi),fun i j oi oj b hi=>by(cases hi),fun i ob hi=>by(cases hi)⟩
 have hle:∀κ,Le (HW W) (HF (fun _=>False) W (fun _=>HW W) sN (fun _=>none) W κ):=fun κ b o hb=>by
  obtain⟨g1,g2,g3⟩:=h0 b o hb;rw[nY g1 g3];exact hb
 refine(c.2 (fun _=>False) W (fun _=>HW W) sN l (fun _ _=>rfl) (by rw[hno];exact hS) (by rw[hno];exact h.mono (fun i x hx=>by(cases hx)) hle)).mono ?_;rintro e w' ⟨vs,rfl,ν',_,hE,hr⟩;exact⟨vs,ν',_,rfl,⟨hE.os,hE.tape,hE.output,hE.size,fun k hk=>hE.keep k hk (fun h=>h)⟩,hr⟩
theorem Us{P:Program}{f:FuncId}{az:List S1}{b:Bool}(c:Cn P f az [] [sB b]){W:World}{l:List Value}(h:dO sN (fun _=>HW W) az l)(hT:vX fun _=>HW W):Calls P f l.toArray W (Ret W fun v _=>Value.bool b=v/\True):=by
 refine(UJ c h hT).mono ?_;rintro e w' ⟨vs,ν',H',rfl,hE,a,az,rfl,⟨h1,_⟩,rfl⟩;exact⟨_,rfl,hE,h1.symm,trivial⟩
open Go Go.RowKit Go.X
variable [eT]
theorem RU{P:Program}{f:FuncId}{az rs:List S1}(en:Enters P f)(h:∀(ν:Nu) (H:Bool->Hp) (w:World) (l:List Value),dO ν H az l->Calls P f l.toArray w (fun e w'=>∃vs,e=.returned (jh vs)/\Ext w w'/\∀(ν':Nu) (H':Bool->Hp),dO ν' H' rs vs)):Cn P f az [] rs:=by
 have hno:aQ (ei 0 ([]:List Ob))=fun _=>none:=by funext t;rfl
 refine⟨en,fun X w H ν l hν hS hl=>(h _ _ w l hl).mono ?_⟩;rintro e w' ⟨vs,rfl,hE,hr⟩;rw[hno]at hS;refine⟨vs,rfl,ν,fun _ _=>rfl,?_,hr _ _⟩;rw[hno];exact⟨hE.os,hE.tape,hE.output,hE.size,fun k hk _=>hE.block k hk,hS.h0,hS.nc,hS.pv,fun i ob hi=>(by cases(show none=some ob from hi)),fun i ob b hi=>(by cases(show none=some ob from hi)),fun i j oi oj b hi=>(by cases(show none=some oi from hi)),fun i ob hi=>(by cases(show none=some ob from hi))⟩
theorem PJ{P:Program}{f:FuncId}{az rs:List S1}(en:Enters P f)(h:∀(ν:Nu) (H:Bool->Hp) (w:World) (l:List Value),(∀κ,Le (H κ) (view [] w))->dO ν H az l->Calls P f l.toArray w (fun e w'=>∃vs,e=.returned (jh vs)/\Ext w w'/\∀(ν':Nu) (H':Bool->Hp),dO ν' H' rs vs)):Cn P f az [] rs:=by
 have hno:aQ (ei 0 ([]:List Ob))=fun _=>none:=by funext t;rfl
 refine⟨en,fun X w H ν l hν hS hl=>(h _ _ w l (fun κ=>hS.view κ) hl).mono ?_⟩;rintro e w' ⟨vs,rfl,hE,hr⟩;rw[hno]at hS;refine⟨vs,rfl,ν,fun _ _=>rfl,?_,hr _ _⟩;rw[hno];exact⟨hE.os,hE.tape,hE.output,hE.size,fun k hk _=>hE.block k hk,hS.h0,hS.nc,hS.pv,fun i ob hi=>(by cases(show none=some ob from hi)),fun i ob b hi=>(by cases(show none=some ob from hi)),fun i j oi oj b hi=>(by cases(show none=some oi from hi)),fun i ob hi=>(by cases(show none=some ob from hi))⟩
theorem UD{P:Program}{f:FuncId}{az rs:List S1}(en:Enters P f)(h:∀(ν:Nu) (H:Bool->Hp) (w:World) (l:List Value),(∀g∈eT.l,∃o,w.heap[g]?=some o/\eT.p g o)->dO ν H az l->Calls P f l.toArray w (fun e w'=>∃vs,e=.returned (jh vs)/\Ext w w'/\∀(ν':Nu) (H':Bool->Hp),dO ν' H' rs vs)):Cn P f az [] rs:=by
 have hno:aQ (ei 0 ([]:List Ob))=fun _=>none:=by funext t;rfl
 refine⟨en,fun X w H ν l hν hS hl=>(h _ _ w l (fun g hg=>?_) hl).mono ?_⟩
 . obtain⟨o,h1,h2⟩:=hS.tab g hg;exact⟨o,(hS.rd h1).1,h2⟩
 rintro e w' ⟨vs,rfl,hE,hr⟩;rw[hno]at hS;refine⟨vs,rfl,ν,fun _ _=>rfl,?_,hr _ _⟩;rw[hno];exact⟨hE.os,hE.tape,hE.output,hE.size,fun k hk _=>hE.block k hk,hS.h0,hS.nc,hS.pv,fun i ob hi=>(by cases(show none=some ob from hi)),fun i ob b hi=>(by cases(show none=some ob from hi)),fun i j oi oj b hi=>(by cases(show none=some oi from hi)),fun i ob hi=>(by cases(show none=some ob from hi))⟩
open Go Go.RowKit Go.X
variable [eT]
structure DF {α β:Type}(D:yR α)(f off:Nat)(rf:bP β)(get:α->List β)(set:α->List β->α):Prop where
 lt:f<D.nf
 lo:off<D.r.sz
 at':∀vs bs cc x,D.R vs bs cc x->∃v b k,vs[off]?=some v/\bs[f]?=some b/\cc[f]?=some k/\DS rf v b k (get x)
 st:∀vs bs cc x v b k ys,D.R vs bs cc x->DS rf v b k ys->D.R (vs.set off v) (bs.set f b) (cc.set f k) (set x ys)
 gs:∀x,set x (get x)=x
 sz:(rf.sz==0)=false
 fr:uN rf
open Go Go.RowKit Go.X
variable [eT]
section
variable {P:Program} {tb:List (dG P)} {L:SS} {o:Oper} {K:Ef->Option Sv->Prop} {β:Type} {res:β} {t u el:TypeId} {x y a c:Operand} {T E:dG P} {α:Type}
theorem de(i off j:Nat){l:List Lf}{rp:bP α}{κ:Bool}{xs:List α}(hi:aQ L.bC i=some (.box l):=by rfl)(hj:aQ L.bC j=some (.row rp κ xs):=by rfl)(hl:l[off]?=some (.own j):=by rfl)(hne:Nat.beq i L.nx=false:=by rfl)(hij:Nat.beq i j=false:=by rfl):
 Vw L ⟨1,[(i,some (.box (l.set off (.own L.nx)))),(L.nx,some (.row rp κ xs)),(j,none)],[]⟩:=by
 refine⟨fun X w0 H0 ν oF e w ho hn hS hs=>?_⟩;have hx:=hn L.nx (bK _) (by show L.nx<L.nx+1;omega);obtain⟨b,c,n,k,p1,p2,p3⟩:=hS.cS j _ (ho j _ hj);obtain⟨g1,g2⟩:=hS.dp (ob:=.row rp κ xs) (c':=c) (n':=n) rfl (ho j _ hj) p1 hx (jq p2) (fun H' hH=>by
  obtain⟨e1,e0,cs,sp,e2,e3,e4⟩:=p3;exact⟨e1,e0,cs,sp,e2,e3.mono (hH κ),e4⟩)
 have hoi:bG [(L.nx,some (Ob.row rp κ xs)),(j,none)] oF i=some (.box l):=by
  show(bif Nat.beq i L.nx then _ else bif Nat.beq i j then _ else oF i)=_;rw[hne,hij];exact ho _ _ hi
 have hjn:j≠L.nx:=by rintro rfl;rw[p1]at hx;cases hx
 obtain⟨k1,k2⟩:=g1.review (up:=[(i,some (.box (l.set off (.own L.nx))))]) (fun q o hq=>by
  simp only[cI,nm]at hq;obtain⟨rfl,rfl⟩:=hq;refine⟨.box l,_,rfl,hoi,rfl,?_⟩;rintro c' n' k' ⟨vs,q1,q2⟩;obtain⟨y,q3,b',c2,n2,q4,q5⟩:=q2.get hl;rw[Ai hjn,p1]at q4;cases q4;have:=q2.set (i:=off) (x:=.own L.nx) (y:=y) ⟨_,_,_,kQ,q5⟩;rw[vM q3]at this;exact⟨vs,q1,this⟩)
 refine⟨_,oQ,k1,fun κ'=>?_,mw⟩;have:HF X w0 H0 (iY ν L.nx (b,c,n)) (bG [(i,some (Ob.box (l.set off (.own L.nx)))),(L.nx,some (.row rp κ xs)),(j,none)] oF) w=HF X w0 H0 (iY ν L.nx (b,c,n)) (bG [(L.nx,some (.row rp κ xs)),(j,none)] oF) w:=k2;rw[this];exact g2 κ'
def numG:Nat->List (Option Ob)->List (Nat×Option Ob)
 |_,[]=>[]
 |i,x::r=>(i,x)::numG (i+1) r
def cD(n:Nat)(cS:List (Option Ob))(bQ:List (Nat×Option Sv)):SS:=⟨n,numG 0 cS,bQ⟩
end
open Go Go.RowKit Go.X
variable [eT]
theorem Lo{α:Type}{L:SS}{w:World}{rp:bP α}{κ:Bool}{xs:List α}{j:Nat}{ν:Nu}{H:Bool->Hp}(hO:∀i ob,aQ L.bC i=some ob->∃b c n k,ν i=some (b,c,n)/\dC w b k/\ob.R ν H c n k)(hj:aQ L.bC j=some (.aG rp κ xs)):
 ∃b c n k,ν j=some (b,c,n)/\dC w b k/\(rp.sz==0)=false/\((n=xs.length/\∃cs sp,k=.cells ([]++(cs++sp))/\bS rp (H κ) cs xs/\(cs++sp).length=c*rp.sz)\/(n=xs.length+1/\k=.cells [])):=by
 obtain⟨b,c,n,k,q1,q2,q3,q4⟩:=hO j _ hj;exact⟨b,c,n,k,q1,q2,q3,q4⟩
section
variable {P:Program} {tb:List (dG P)} {L:SS} {o:Oper} {K:Ef->Option Sv->Prop} {β:Type} {res:β} {t u el:TypeId} {x y:Operand} {T E:dG P} {kk:IntKind}
theorem ixA{α:Type}{rp:bP α}{κ:Bool}{xs:List α}{i:Int}{f:α->Option β}{j:Nat}(h:(idx xs i).bind f=some res)(nx:∀a,f a=some res->K .z (some (.pa j rp κ xs a i 0)))
 (ho:o.op=.indexAddr t x y:=by rfl)(hx:bN L x=some (.s (.lf (.ap j rp κ xs))):=by rfl)(hj:aQ L.bC j=some (.aG rp κ xs):=by rfl)(hy:lv (bN L y)=some (.int kk i):=by rfl)(hT:cC tb t=some T:=by rfl)(hd:T.d=.slice el:=by rfl)(hE:cC tb el=some E:=by rfl)(hz:E.sz=rp.sz:=by rfl):cr tb o L K:=by
 obtain⟨a,q1,q2⟩:=bind_some h;obtain⟨n,q3,q4⟩:=sZ q1;refine cr.of (LT.look fun ν H e w hv ht hO hS=>?_) (nx a q2);rw[ho];obtain⟨b,c,m,k,g1,g2,g3,g4⟩:=Lo hO hj;obtain⟨b',c',n',m1,m2⟩:(Lf.ap j rp κ xs).R ν H (ev e x):=cW hS hx;rw[g1]at m1;cases m1;rcases m2 with⟨m2,m3,m4⟩|⟨m2,m3,m4⟩
 . rcases g4 with⟨g4,cs,sp,rfl,g5,g6⟩|⟨g4,_⟩
   . obtain⟨b,rfl⟩:=zo g2 g5 g3 q4;exact aF.Ds (r:=rp) (q:=n*rp.sz+0) (gi hT hd) (iI hE hz) m4 m2 (eJ hS hy).1 q3 (dU.1 q4).1 (by omega) ⟨rfl,some b,_,_,n,g1,q3,q4,.inl ⟨m2,b,rfl,rfl⟩⟩
   . omega
 . obtain⟨b2,o',cap,vs,r1,r2,r3,r4⟩:=m3.get q4;exact aF.H5 (gi hT hd) (iI hE hz) rfl r1 (eJ hS hy).1 q3 q4 rfl ⟨rfl,b,_,_,n,g1,q3,q4,.inr ⟨m2,b2,o'+n*rp.sz,vs,rfl,r3,r4⟩⟩
theorem ldA{α:Type}{rp:bP α}[aO rp]{κ:Bool}{xs:List α}{a:α}{i:Int}{j off:Nat}{s:S1}(nx:K .z (some (.s s)))
 (ho:o.op=.load t x:=by rfl)(hx:bN L x=some (.pa j rp κ xs a i off):=by rfl)(hj:aQ L.bC j=some (.aG rp κ xs):=by rfl)(hT:cC tb t=some T:=by rfl)(hl:sh (iv T.d) T.sz (aO.cl rp κ a) off=some s:=by rfl):cr tb o L K:=by
 refine cr.of (LT.look fun ν H e w hv ht hO hS=>?_) nx;rw[ho];obtain⟨b,c,m,k,g1,g2,g3,g4⟩:=Lo hO hj;obtain⟨b',c',n',m',m1,m2,m3,m4⟩:=cW hS hx;rw[g1]at m1;cases m1;rcases m4 with⟨m4,b2,rfl,m5⟩|⟨m4,b2,o2,vs,m5,m6,m7⟩
 . rcases g4 with⟨g4,cs,sp,rfl,g5,g6⟩|⟨g4,_⟩
   . obtain⟨vs,v1,v2,v3⟩:=EO (pre:=[]) (sp:=sp) g5 m3;simp only[dM,eK]at v3;rcases tG hl (aO.op v2:cR ν H _ vs)with⟨h1,v,h2,h3⟩|⟨h1,us,h2,h3,h4⟩
     . have hp:=Av (us:=[v]) (q:=off) v3 (by
        rw[kq];obtain⟨hlt,hv⟩:=dU.1 h2;rw[eU hlt,hv];rfl)
       exact aF.Hw (gk hT) h1 m5 g2 hp ⟨rfl,h3⟩
     . exact aF.FL (gk hT) h1 (fQ hT) m5 g2 h2 (Av v3 h3) ⟨rfl,h4⟩
   . omega
 . rcases tG hl (aO.op m7:cR ν H _ vs)with⟨h1,v,h2,h3⟩|⟨h1,us,h2,h3,h4⟩
   . refine aF.Kh (H:=H κ) (v:=v) (gk hT) h1 m5 (hv κ) ?_ ⟨rfl,h3⟩;refine m6.part off ?_;have hlt:=(dU.1 h2).1;rw[eU hlt];have:=(dU.1 h2).2;simp[this]
   . exact aF.HR (H:=H κ) (gk hT) h1 (fQ hT) m5 h2 (hv κ) (m6.part off h3) ⟨rfl,h4⟩
theorem apA{α:Type}(κn:Bool){rp:bP α}{κ κs:Bool}{xs ys:List α}{bs:Nat}{f:List α->Option β}{a c:Operand}{j:Nat}{l:Lf}(h:(cN bs xs ys).bind f=some res)
 (nx:∀Y,f Y=some res->K ⟨1,[(L.nx,some (.row rp κn Y)),(j,none)],[]⟩ (some (.s (.lf (.own L.nx)))))
 (ho:o.op=.call {callee:=.builtin .append,args:=#[a,c],argTypes:=#[t,t]}:=by rfl) (ha:bN L a=some (.s (.lf (.ap j rp κ xs))):=by rfl) (hj:aQ L.bC j=some (.aG rp κ xs):=by rfl) (hc:bN L c=some (.s (.lf l)):=by rfl)
 (hs:vg L rp κs ys l:=by first|exact .ro|exact .own rfl) (hp:Nat.blt 0 ys.length=true:=by rfl) (hT:cC tb t=some T:=by rfl) (hd:T.d=.slice el:=by rfl) (hE:cC tb el=some E:=by rfl) (hz:E.sz=rp.sz:=by rfl) (hb:E.qA=bs:=by rfl) (hq:Nat.beq E.z.cells.size rp.sz=true:=by rfl)
 (hk:bW κ κn=true:=by rfl) (hks:bW κs κn=true\/uN rp:=by first|exact .inl rfl|exact .inr fun _ _ _ _ h=>h):cr tb o L K:=by
 obtain⟨Y,q1,q2⟩:=bind_some h;obtain⟨q3,q4,q5⟩:=BX q1;refine cr.of (LT.rp hj fun ν H e w b cp n k0 hv ht hO hS p1 p2 p3=>?_) (nx Y q2);rw[ho];obtain⟨g7,p3⟩:=p3;obtain⟨b',c',n',m1,m2⟩:(Lf.ap j rp κ xs).R ν H (ev e a):=cW hS ha;rw[p1]at m1;cases m1;obtain⟨ds,d1,d2⟩:=Ea (κn:=κn) hv ht hO hs hks (cW hS hc);subst hb;rcases p3 with⟨e1,cs,sp,rfl,g5,g6⟩|⟨e1,rfl⟩
 . rcases m2 with⟨m2,m3,m4⟩|⟨m2,_,_⟩
   . refine aF.Hq (H:=H κn) (gi hT hd) (iI hE hz) (dH hq) g7 m4 rfl (jq p2) (i:=0) rfl rfl (g5.mono (uR ht hk)) e1 g6 d1 d2 q3 q4 q5 ?_;intro ob' cap' sp' ds' w' hE' hcap hL' hst;exact⟨ob',cap',Y.length,_,hL',fun ν' H' hν hH=>⟨rfl,g7,ds',sp',rfl,hE'.mono (hH κn),hcap⟩,fun ν' H' hν hH hn=>⟨ob',cap',Y.length,hn,rfl⟩⟩
   . omega
 . rcases m2 with⟨m2,_,_⟩|⟨m2,m3,m4⟩
   . omega
   . have hR:=Rs.mono m3 (uR ht hk);have e1:=Jh (hv κn);rw[e1]at hR d2;have hdrop:Go.X.Loc [b] [] w w [] []:=by
      have:=(jq p2).drop 0;exact this.1
     refine aF.Im (gi hT hd) (iI hE hz) (dH hq) g7 rfl rfl hR m4 d1 d2 (by simpa using hp) q3 q4 q5 hdrop fun b2 cap sp cs w' h1 h2 h3 h4=>?_;rw[<-e1]at h1;exact⟨some b2,cap,Y.length,_,h3,fun ν' H' hν hH=>⟨rfl,g7,cs,sp,rfl,h1.mono (hH κn),h2⟩,fun ν' H' hν hH hn=>⟨some b2,cap,Y.length,hn,rfl⟩⟩
theorem fa{α:Type}(i off:Nat){l:List Lf}{j:Nat}{rp:bP α}{κ:Bool}{xs:List α}(hi:aQ L.bC i=some (.box l):=by rfl)(hl:l[off]?=some (.ap j rp κ xs):=by rfl)(hj:aQ L.bC j=some (.aG rp κ xs):=by rfl):
 Vw L ⟨0,[(i,some (.box (l.set off (.ro rp κ xs)))),(j,none)],[]⟩:=by
 refine⟨fun X w0 H0 ν oF e w ho hn hS hs=>?_⟩;obtain⟨b,c,n,kk,q1,q2,e0,q3⟩:=hS.cS j _ (ho j _ hj);obtain⟨g1,g2⟩:=hS.go (T:=[j]) (O:=[b]) (new:=[]) (oF':=bG [(j,none)] oF) (ν':=ν) (fun b' hb=>by simp only[cI]at hb;exact⟨j,by simp,_,ho j _ hj,by rw[eE q1,hb]⟩) ((jq q2).drop 0).1 (eQ.refl ν) rfl (by simp)
  (fun i o h=>by
   rcases jC h with h|⟨h,h2⟩
   . simp at h
   . refine .inl ⟨h,fun hm=>?_⟩;simp only[cI]at hm;subst hm;simp[bZ]at h2)
  (fun _ x hx=>by cases hx) (fun x hx=>by cases hx) ⟨rfl,rfl⟩
 have hij:i≠j:=by rintro rfl;rw[hi]at hj;cases hj
 have hbe:Nat.beq i j=false:=by
  cases hb:Nat.beq i j with
  |false=>rfl
  |true=>exact absurd (dH hb) hij
 obtain⟨k1,k2⟩:=g1.review (up:=[(i,some (.box (l.set off (.ro rp κ xs))))]) (fun i' o hj'=>by
  simp only[cI,nm]at hj';obtain⟨rfl,rfl⟩:=hj';refine⟨.box l,_,rfl,?_,rfl,?_⟩
  . show(bif Nat.beq i' j then none else oF i')=_;rw[hbe];exact ho _ _ hi
  . rintro c' n' k' ⟨vs,r1,r2⟩;obtain⟨y,r3,r4⟩:=r2.get hl;have hy:(Lf.ro rp κ xs).R ν (HF X w0 H0 ν (bG [(j,none)] oF) w) y:=by
     obtain⟨b',c2,n2,s1,s2⟩:=r4;rw[q1]at s1;cases s1;rcases s2 with⟨s2,s3,s4⟩|⟨s2,s3,s4⟩
     . rcases q3 with⟨q3,cs,sp,rfl,e3,e4⟩|⟨q3,_⟩
       . rw[s4];cases b with
         |none=>exact qv q2 e3 e0
         |some b=>
          have hno:¬Ow ν (bG [(j,none)] oF) b:=by
           rintro⟨i',ob,r2,r3⟩;rcases jC r2 with h|⟨h,h2⟩
           . simp at h
           . have:=hS.gB i' j ob _ b h (ho j _ hj) r3 (.inl (eE q1));subst this;simp[bZ]at h2
          exact wm (oH q2 fun q hq=>kY (hS.fresh j _ b (ho j _ hj) (.inl (eE q1))) hno (vd q2 hq)) (e3.mono (g2 κ)) e0 rfl q3 e4
       . omega
     . exact s3
    have:=r2.set (i:=off) (x:=.ro rp κ xs) (y:=y) hy;rw[vM r3]at this;exact⟨vs,r1,this⟩)
 rw[<-oD]at k1 k2;refine⟨ν,iA.refl,k1,fun κ=>?_,mw⟩;have k3:HF X w0 H0 ν (bG [(i,some (Ob.box (l.set off (.ro rp _ xs)))),(j,none)] oF) w=HF X w0 H0 ν (bG [(j,none)] oF) w:=k2;rw[k3];exact g2 κ
theorem ca{α:Type}(i off:Nat){l:List Lf}{rp:bP α}{κ:Bool}{xs:List α}(hi:aQ L.bC i=some (.box l):=by rfl)(hl:l[off]?=some (.cp rp κ xs):=by rfl)(hne:Nat.beq i L.nx=false:=by rfl)(hz:(rp.sz==0)=false:=by rfl):
 Vw L ⟨1,[(i,some (.box (l.set off (.ap L.nx rp κ xs)))),(L.nx,some (.aG rp κ xs))],[]⟩:=by
 refine⟨fun X w0 H0 ν oF e w ho hn hS hs=>?_⟩;have hx:=hn L.nx (bK _) (by show L.nx<L.nx+1;omega);obtain⟨g1,g2⟩:=hS.new (ob:=.aG rp κ xs) (c:=0) (n:=xs.length+1) rfl hx Br (fun H' _=>⟨hz,.inr ⟨rfl,rfl⟩⟩);have hoi:bG [(L.nx,some (Ob.aG rp κ xs))] oF i=some (.box l):=by
  show(bif Nat.beq i L.nx then _ else oF i)=_;rw[hne];exact ho _ _ hi
 obtain⟨k1,k2⟩:=g1.review (up:=[(i,some (.box (l.set off (.ap L.nx rp κ xs))))]) (fun j o hj=>by
  simp only[cI,nm]at hj;obtain⟨rfl,rfl⟩:=hj;refine⟨.box l,_,rfl,hoi,rfl,?_⟩;rintro c n k ⟨vs,q1,q2⟩;obtain⟨y,q3,q4⟩:=q2.get hl;have:=q2.set (i:=off) (x:=.ap L.nx rp κ xs) (y:=y) ⟨none,0,_,kQ,.inr ⟨rfl,q4.1,q4.2⟩⟩;rw[vM q3]at this;exact⟨vs,q1,this⟩)
 rw[<-oD]at k1 k2;refine⟨_,oQ,k1,fun κ=>?_,mw⟩;have k3:HF X w0 H0 (iY ν L.nx (none,0,xs.length+1)) (bG [(i,some (Ob.box (l.set off (.ap L.nx rp _ xs)))),(L.nx,some (.aG rp _ xs))] oF) w=HF X w0 H0 (iY ν L.nx (none,0,xs.length+1)) (bG [(L.nx,some (.aG rp _ xs))] oF) w:=k2;rw[k3];exact g2 κ
theorem oa{α:Type}(i off:Nat){l:List Lf}{j:Nat}{rp:bP α}{κ:Bool}{xs:List α}(hi:aQ L.bC i=some (.box l):=by rfl)(hl:l[off]?=some (.own j):=by rfl)(hj:aQ L.bC j=some (.row rp κ xs):=by rfl):
 Vw L ⟨0,[(i,some (.box (l.set off (.ap j rp κ xs)))),(j,some (.aG rp κ xs))],[]⟩:=by
 refine⟨fun X w0 H0 ν oF e w ho hn hS hs=>?_⟩;obtain⟨b,c,n,kk,q1,q2,e1,e0,cs,sp,e2,e3,e4⟩:=hS.cS j _ (ho j _ hj);have hnil:b=none->xs=[]:=fun hb=>by
  subst hb;subst e2;have hq:Rs rp (HF X w0 H0 ν oF w κ) (ff none 0 0 0) xs:=qv q2 e3 e0;rcases hq with⟨_,h⟩|⟨_,_,_,hv,_⟩
  . exact h
  . cases hv
 obtain⟨g1,g2⟩:=hS.review (up:=[(j,some (.aG rp κ xs))]) (fun i' o hj'=>by
  simp only[cI,nm]at hj';obtain⟨rfl,rfl⟩:=hj';refine⟨.row rp κ xs,_,rfl,ho _ _ hj,rfl,?_⟩;rintro c' n' k' ⟨r1,r0,cs,sp,r2,r3,r4⟩;exact⟨r0,.inl ⟨r1,cs,sp,r2,r3,r4⟩⟩)
 have hij:i≠j:=by rintro rfl;rw[hi]at hj;cases hj
 have hbe:Nat.beq i j=false:=by
  cases hb:Nat.beq i j with
  |false=>rfl
  |true=>exact absurd (dH hb) hij
 obtain⟨k1,k2⟩:=g1.review (up:=[(i,some (.box (l.set off (.ap j rp κ xs))))]) (fun i' o hj'=>by
  simp only[cI,nm]at hj';obtain⟨rfl,rfl⟩:=hj';refine⟨.box l,_,rfl,?_,rfl,?_⟩
  . show(bif Nat.beq i' j then _ else oF i')=_;rw[hbe];exact ho _ _ hi
  . rintro c' n' k' ⟨vs,r1,r2⟩;obtain⟨y,r3,b',c2,n2,s1,s2⟩:=r2.get hl;rw[q1]at s1;cases s1;have:=r2.set (i:=off) (x:=.ap j rp κ xs) (y:=y) ⟨b,c,n,q1,.inl ⟨e1,hnil,s2⟩⟩;rw[vM r3]at this;exact⟨vs,r1,this⟩)
 rw[<-oD]at k1 k2;refine⟨ν,iA.refl,k1,fun κ'=>?_,mw⟩;have k3:HF X w0 H0 ν (bG [(i,some (Ob.box (l.set off (.ap j rp κ xs)))),(j,some (.aG rp κ xs))] oF) w=HF X w0 H0 ν (bG [(j,some (.aG rp κ xs))] oF) w:=k2;rw[k3,g2];exact Le.refl _
theorem fv{P:Program}{α ρ:Type}(t:Nat)(az:α->List S1)(rs:ρ->List S1)(f:α->Option ρ){fid:FuncId}(c:∀x r,f x=some r->Cx P fid (az x) [] [] (rs r))(he:Enters P fid)(ht:aQ L.bQ t=some (.s (.lf (.v (.func (.func fid) #[] #[])))):=by rfl):Vw L ⟨0,[],[(t,some (.s (.lf (.pd (iM P az rs f)))))]⟩:=by
 refine⟨fun X w0 H0 ν oF e w ho hn hS hs=>⟨ν,iA.refl,hS,fun _=>Le.refl _,fun t' sv h=>?_⟩⟩;have h:(bif Nat.beq t' t then some (Sv.s (.lf (.pd (iM P az rs f))))else none)=some sv:=h;cases hb:Nat.beq t' t with
 |false=>rw[hb]at h;cases h
 |true=>
  rw[hb]at h;cases h;have e1:=dH hb;subst e1;have h1:(Lf.v (.func (.func fid) #[] #[])).R ν (HF X w0 H0 ν oF w) (e t'):=hs _ _ ht;have h2:=(pA.f (P:=P) az rs f c he .n).ok (ν:=ν) (H:=HF X w0 H0 ν oF w) (v:=[e t']) ⟨_,[],rfl,h1,rfl⟩;obtain⟨a,r,h3,h4,h5⟩:=h2;cases h3;exact h4
theorem eu{α:Type}(i off j:Nat){l:List Lf}{rp:bP α}{κ:Bool}{xs:List α}(hi:aQ L.bC i=some (.box l):=by rfl)(hj:aQ L.bC j=some (.aG rp κ xs):=by rfl)(hl:l[off]?=some (.ap j rp κ xs):=by rfl)(hne:Nat.beq i L.nx=false:=by rfl)(hij:Nat.beq i j=false:=by rfl):
 Vw L ⟨1,[(i,some (.box (l.set off (.ap L.nx rp κ xs)))),(L.nx,some (.aG rp κ xs)),(j,none)],[]⟩:=by
 refine⟨fun X w0 H0 ν oF e w ho hn hS hs=>?_⟩;have hx:=hn L.nx (bK _) (by show L.nx<L.nx+1;omega);obtain⟨b,c,n,k,p1,p2,p3⟩:=hS.cS j _ (ho j _ hj);obtain⟨g1,g2⟩:=hS.dp (ob:=.aG rp κ xs) (c':=c) (n':=n) rfl (ho j _ hj) p1 hx (jq p2) (fun H' hH=>⟨p3.1,p3.2.imp (fun⟨e1,cs,sp,e2,e3,e4⟩=>⟨e1,cs,sp,e2,e3.mono (hH κ),e4⟩) id⟩);have hoi:bG [(L.nx,some (Ob.aG rp κ xs)),(j,none)] oF i=some (.box l):=by
  show(bif Nat.beq i L.nx then _ else bif Nat.beq i j then _ else oF i)=_;rw[hne,hij];exact ho _ _ hi
 have hjn:j≠L.nx:=by rintro rfl;rw[p1]at hx;cases hx
 obtain⟨k1,k2⟩:=g1.review (up:=[(i,some (.box (l.set off (.ap L.nx rp κ xs))))]) (fun q o hq=>by
  simp only[cI,nm]at hq;obtain⟨rfl,rfl⟩:=hq;refine⟨.box l,_,rfl,hoi,rfl,?_⟩;rintro c' n' k' ⟨vs,q1,q2⟩;obtain⟨y,q3,b',c2,n2,q4,q5⟩:=q2.get hl;rw[Ai hjn,p1]at q4;cases q4;have:=q2.set (i:=off) (x:=.ap L.nx rp κ xs) (y:=y) ⟨_,_,_,kQ,q5⟩;rw[vM q3]at this;exact⟨vs,q1,this⟩)
 refine⟨_,oQ,k1,fun κ'=>?_,mw⟩;have:HF X w0 H0 (iY ν L.nx (b,c,n)) (bG [(i,some (Ob.box (l.set off (.ap L.nx rp κ xs)))),(L.nx,some (.aG rp κ xs)),(j,none)] oF) w=HF X w0 H0 (iY ν L.nx (b,c,n)) (bG [(L.nx,some (.aG rp κ xs)),(j,none)] oF) w:=k2;rw[this];exact g2 κ'
end
theorem Sy{is:List Nat}{U:List (Nat×Option Ob)}{g oF:OF}(hk:U.map (·.1)=is)(hg:is.map (aQ U)=is.map g)(hs:is.all (fun i=>(g i).isSome)=true)(ho:∀i ob,g i=some ob->oF i=some ob):bG (U++gW is) oF=oF:=by
 funext i;rw[oD];cases hm:bZ i is with
 |false=>
  rw[jM (by rw[hk];exact hm),jM (by rw[AP];exact hm)]
 |true=>
  have h1:bG U (bG (gW is) oF) i=bG U (fun _=>none) i:=pY (by rw[hk];exact hm);have h2:aQ (U++[]) i=bG U (aQ []) i:=qm _ _ _;rw[lG]at h2;rw[h1];have h3:bG U (fun _=>none) i=aQ U i:=h2.symm;rw[h3];have hmem:i∈is:=iV.1 hm;have h4:aQ U i=g i:=by
   have:∀(l:List Nat),l.map (aQ U)=l.map g->i∈l->aQ U i=g i:=by
    intro l
    induction l with
    |nil=>intro _ h;cases h
    |cons a r ih=>
     intro h hi;simp only[jY,M2]at h;rcases dT.1 hi with e|e
     . subst e;exact h.1
     . exact ih h.2 e
   exact this is hg hmem
  rw[h4];have h5:=tp.1 hs i hmem;cases hgi:g i with
  |none=>rw[hgi]at h5;cases h5
  |some ob=>exact(ho i ob hgi).symm
section
variable {P:Program} {tb:List (dG P)} {L:SS} {o:Oper} {K:Ef->Option Sv->Prop} {β:Type} {res:β}
theorem eR(md:Option Bool)(is:List Nat){ρ:Type}{g:Option ρ}{f:ρ->Option β}{fid:FuncId}{args:List Operand}{ats:Array TypeId}{ls az:List S1}{ib:List Ob}{out:ρ->List (Nat×Option Ob)}{rs:ρ->List S1}
 (h:g.bind f=some res)(c:∀r,g=some r->Cx P fid az ib (out r) (rs r))(nx:∀r,f r=some res->K .z (some (o7 ((rs r).map (kI md is L.nx)))))
 (ho:o.op=.call {callee:=.value (.func fid),args:=args.toArray,argTypes:=ats}:=by rfl)(ha:ot L args=some ls:=by rfl)(hl:kh md (aQ L.bC) is ls az=some az:=by rfl)(hb:iT md (aQ L.bC) is is ib=some ib:=by rfl)(hn:fI is=true:=by rfl)
 (h1:∀r,og md (is.length+0) (out r)=true:=by intro r;rfl)(h2:∀r,(rs r).all (pG md (is.length+0))=true:=by intro r;rfl)(h3:∀r,fI ((out r).map (·.1))=true:=by intro r;rfl)
 (k1:∀r,(eX md is L.nx (out r)).map (·.1)=is:=by intro r;rfl)(k2:∀r,is.map (aQ (eX md is L.nx (out r)))=is.map (aQ L.bC):=by intro r;rfl)(k3:is.all (fun i=>(aQ L.bC i).isSome)=true:=by rfl):cr tb o L K:=by
 obtain⟨r,q1,q2⟩:=bind_some h;refine cr.of ⟨fun X w0 H0 ν oF e w hO hn' hS hs=>?_⟩ (nx r q2);rw[ho];have hlt:=(Mt md is 0 (ats:=ats) (ty:=o.type) (c r q1) ha hl hb hn (h1 r) (h2 r) (h3 r)).ok X w0 H0 ν oF e w hO (fun k hk hk'=>absurd hk' (by show¬k<L.nx+0;omega)) hS hs;have e1:bG (eX md is L.nx (out r)++gW is) oF=oF:=Sy (k1 r) (k2 r) k3 hO;refine hlt.mono ?_;rintro v w' ⟨ν',g1,g2,g3,g4,g5⟩;rw[e1]at g2 g3 g4 g5;exact⟨ν',g1,g2,g3,g4,g5⟩
end
end Go.Q
