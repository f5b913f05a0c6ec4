/- Short names for hiding a fact. -/
import Derived.Lib.Hide
theorem Go.RowKit.Hid.o {p:Prop}(h:Go.RowKit.Hid p):p:=h
theorem Go.Proofs.YtgdpkkjfcdhmdaaGreatDoor.Z {p:Prop}(h:p):Go.RowKit.Hid p:=h
